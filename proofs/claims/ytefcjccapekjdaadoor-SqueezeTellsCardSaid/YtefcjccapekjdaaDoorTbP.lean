/-
  TABLES: table.of, table.Pick, table.At, walked.
-/
import Derived.Test.YtefcjccapekjdaaDoorTb
namespace Go.Proofs.YtefcjccapekjdaaDoor.Tb
open Go.ChangeShapes Go.WideShapes Go.ChangeAt Go.RowKit
open Go.Proofs.YtefcjccapekjdaaDoor
open Go.Proofs.YtefcjccapekjdaaDoor.Wd
open Go.Proofs.YtefcjccapekjdaaDoor.Rec
open Go.Proofs.YtefcjccapekjdaaDoor.Yr
open Go.Proofs.YtefcjccapekjdaaDoor.Clk (yrV yrE)
open Go.Proofs.YtefcjccapekjdaaDoor.Civ (Tab Inv)
set_option linter.unusedVariables false
theorem results_r {fn : Func} {p : Tmp} (h : fn.results = #[.cell p 26]) (tmps : Array Value) (w : World) (g : Nat) (t : TypeId) (cs : Array Value)
    (hp : tmps.getD p undef = .pointer (some ⟨g, 0, none⟩)) (hg : w.heap[g]? = some (.cells cs t (0, 0))) (hs : cs.size = 19) :
    (results fn tmps).run Tryd.prog w = .ok (.agg cs) w := by
  have hp' : tmps[p]?.getD undef = .pointer (some ⟨g, 0, none⟩) := by simpa using hp
  have hi : (Tryd.prog.info? 26).map (·.size) = some cs.size := by rw [hs]; kernel_rfl
  simp [results, h, hp', asAddr, run_loadVar_row w g t 26 cs (0, 0) _ hg Tryd.underlying26 rfl hi]
set_option maxRecDepth 20000 in
set_option maxHeartbeats 1600000 in
theorem of_any (F L : Int) (A : Option Addr) (n c B : Nat) (l : List Rc) (y : Int) (w : World) (hR : Recs w B A n l) (hB : B ≤ w.heap.size) (hk : tbOk F L l = true) :
    Calls Tryd.prog 96 #[tbV F L A n c, .int .i64 y] w fun e w' => e = .returned (pick F L l y).V ∧ Below w.heap.size w w' := by
  obtain ⟨h0, h1, h2⟩ := idx_bd hk y
  have hn : (idx F L y).toNat < n := by rw [← hR.1]; exact h1
  have hb1 := (Below.refl w.heap.size w).alloc (Nat.le_refl _) (.cells (tbA F L A n c) 40)
  have hb2 := hb1.alloc hb1.size (.cells z19 26)
  obtain ⟨ad, rfl, hrow⟩ := (hR.below (hb2.mono hB)).row hn h1
  rw [← pick_eq hk y] at hrow
  obtain ⟨⟨b1, b2, b3, b4, b5⟩, b6, _⟩ := tb_ok hk
  have x0 := (Blk.new w 40 (tbA F L (some ad) n c)).alloc (.cells z19 26)
  have y0 := blk_at (w.alloc (.cells (tbA F L (some ad) n c) 40)) 26 z19 (sz1 _ _ rfl)
  have d0 := x0.cell 0; have d1 := x0.cell 1; have d2 := x0.cell 2; simp at d0 d1 d2
  clear hk hR b6
  generalize pick F L l y = r at *
  have hs : y < F ∨ (F ≤ y ∧ y ≤ L) ∨ (F ≤ y ∧ L < y) := by omega
  rcases hs with s1 | ⟨s1, s2⟩ | ⟨s1, s2⟩
  · have e : idx F L y = 0 := by unfold idx; omega
    rw [e] at hrow hn; clear e h0 h1 h2
    go_enter Tryd.func96, Tryd.ntmps96
    go_wp2_with (first
      | refine wpList_at_g rfl 26 _ rfl B _ r.A rfl _ hrow Tryd.underlying26 rfl (by kernel_rfl) ?_
      | refine wpList_store_g rfl 26 _ _ rfl rfl _ 0 r.A r.A rfl rfl _ _ y0 (by show 0 + 19 ≤ 19; decide) (by kernel_rfl) (by kernel_rfl) (by kernel_rfl) ?_)
    exact bodyPost_ret (results_r rfl _ _ _ _ _ rfl (Blk.row y0 _) rfl) rfl ⟨rfl, below_row hb2 (Nat.le_add_right _ 1) _⟩
  · have e : idx F L y = y - F := by unfold idx; omega
    rw [e] at hrow hn; clear e h0 h1 h2
    have hn2 : y - F < (n : Int) := by omega
    go_enter Tryd.func96, Tryd.ntmps96
    go_wp2_with (first
      | refine wpList_at_g rfl 26 _ rfl B _ r.A rfl _ hrow Tryd.underlying26 rfl (by kernel_rfl) ?_
      | refine wpList_store_g rfl 26 _ _ rfl rfl _ 0 r.A r.A rfl rfl _ _ y0 (by show 0 + 19 ≤ 19; decide) (by kernel_rfl) (by kernel_rfl) (by kernel_rfl) ?_)
    exact bodyPost_ret (results_r rfl _ _ _ _ _ rfl (Blk.row y0 _) rfl) rfl ⟨rfl, below_row hb2 (Nat.le_add_right _ 1) _⟩
  · have e : idx F L y = L - F := by unfold idx; omega
    rw [e] at hrow hn; clear e h0 h1 h2
    have hn2 : L - F < (n : Int) := by omega
    go_enter Tryd.func96, Tryd.ntmps96
    go_wp2_with (first
      | refine wpList_at_g rfl 26 _ rfl B _ r.A rfl _ hrow Tryd.underlying26 rfl (by kernel_rfl) ?_
      | refine wpList_store_g rfl 26 _ _ rfl rfl _ 0 r.A r.A rfl rfl _ _ y0 (by show 0 + 19 ≤ 19; decide) (by kernel_rfl) (by kernel_rfl) (by kernel_rfl) ?_)
    exact bodyPost_ret (results_r rfl _ _ _ _ _ rfl (Blk.row y0 _) rfl) rfl ⟨rfl, below_row hb2 (Nat.le_add_right _ 1) _⟩
def pkE (F L : Int) (l : List Rc) (y : Int) : Int := if tbOk F L l = false then 2 else if 1601 ≤ y ∧ y ≤ 9999 then 0 else 1
def pkR (F L : Int) (l : List Rc) (y : Int) : Rc := if pkE F L l y = 0 then pick F L l y else Rc.nil
theorem results_re {fn : Func} {p q : Tmp} (h : fn.results = #[.cell p 26, .tmp q]) (tmps : Array Value) (w : World) (g : Nat) (t : TypeId) (cs : Array Value) (v : Value)
    (hp : tmps.getD p undef = .pointer (some ⟨g, 0, none⟩)) (hq : tmps.getD q undef = v) (hg : w.heap[g]? = some (.cells cs t (0, 0))) (hs : cs.size = 19) :
    (results fn tmps).run Tryd.prog w = .ok (.tuple #[.agg cs, v]) w := results_zero h tmps w g t cs v hp hq hg hs
set_option maxRecDepth 20000 in
set_option maxHeartbeats 1600000 in
theorem pick_any (F L : Int) (A : Option Addr) (n c B : Nat) (l : List Rc) (y : Int) (w : World) (hT : Tab w) (hR : Recs w B A n l) (hB : B ≤ w.heap.size) (hm : n ≤ maxLen) :
    Calls Tryd.prog 37 #[tbV F L A n c, .int .i64 y] w fun e w' => e = .returned (.tuple #[(pkR F L l y).V, .int .i64 (pkE F L l y)]) ∧ Below w.heap.size w w' := by
  have i0 := Civ.Inv.start hT
  have i1 := (i0.alloc (.cells (tbA F L A n c) 40)).alloc (.cells z19 26)
  have x0 := (Blk.new w 40 (tbA F L A n c)).alloc (.cells z19 26)
  have z0 := blk_at (w.alloc (.cells (tbA F L A n c) 40)) 26 z19 (sz1 _ _ rfl)
  have hch := check_any F L A n c B l _ i1.1 (hR.below (i1.2.mono hB)) (Nat.le_trans hB i1.2.size) hm
  cases hk : tbOk F L l
  · have e1 : pkE F L l y = 2 := by unfold pkE; rw [if_pos hk]
    have e2 : pkR F L l y = Rc.nil := by unfold pkR; rw [e1]; rfl
    rw [show tbE F L l = 2 by unfold tbE; rw [hk]; rfl] at hch
    rw [e1, e2]; clear e1 e2 hk
    go_enter Tryd.func37, Tryd.ntmps37
    go_wp2_with (refine wpList_row_g rfl 40 _ rfl _ rfl _ _ _ _ x0 Tryd.underlying40 rfl (by kernel_rfl) ?_)
    refine hch.mono ?_; rintro e w1 ⟨rfl, hb1⟩
    have i2 := i1.call hb1
    have z1 := z0.below hb1 z0.lt
    clear hch x0 z0 i1 hb1
    go_wp2_with (refine wpList_store_g rfl 26 _ _ rfl rfl _ 0 z19 z19 rfl rfl _ _ z1 (by show 0 + 19 ≤ 19; decide) (by kernel_rfl) (by kernel_rfl) (by kernel_rfl) ?_)
    exact bodyPost_ret (results_re rfl _ _ _ _ _ _ rfl rfl (Blk.row z1 _) rfl) rfl ⟨rfl, below_row i2.2 (Nat.le_add_right _ 1) _⟩
  · rw [show tbE F L l = 0 by unfold tbE; rw [if_pos hk]] at hch
    by_cases hy : 1601 ≤ y ∧ y ≤ 9999
    · have e1 : pkE F L l y = 0 := by unfold pkE; rw [if_neg (by rw [hk]; decide), if_pos hy]
      have e2 : pkR F L l y = pick F L l y := by unfold pkR; rw [if_pos e1]
      rw [e1, e2]; clear e1 e2
      obtain ⟨h1, h2⟩ := hy
      have hof := fun w' (h : Below w.heap.size w w') => of_any F L A n c B l y w' (hR.below (h.mono hB)) (Nat.le_trans hB h.size) hk
      generalize pick F L l y = r at *
      go_enter Tryd.func37, Tryd.ntmps37
      go_wp2_with (refine wpList_row_g rfl 40 _ rfl _ rfl _ _ _ _ x0 Tryd.underlying40 rfl (by kernel_rfl) ?_)
      refine hch.mono ?_; rintro e w1 ⟨rfl, hb1⟩
      have i2 := i1.call hb1
      have x1 := x0.below hb1 x0.lt
      have z1 := z0.below hb1 z0.lt
      clear hch x0 z0 i1 hb1
      go_wp2_with (refine wpList_row_g rfl 40 _ rfl _ rfl _ _ _ _ x1 Tryd.underlying40 rfl (by kernel_rfl) ?_)
      refine (hof _ i2.2).mono ?_; rintro e w2 ⟨rfl, hb2⟩
      have i3 := i2.call hb2
      have z2 := z1.below hb2 z1.lt
      clear hof x1 z1 i2 hb2
      go_wp2_with (refine wpList_store_g rfl 26 _ _ rfl rfl _ 0 r.A r.A rfl rfl _ _ z2 (by show 0 + 19 ≤ 19; decide) (by kernel_rfl) (by kernel_rfl) (by kernel_rfl) ?_)
      exact bodyPost_ret (results_re rfl _ _ _ _ _ _ rfl rfl (Blk.row z2 _) rfl) rfl ⟨rfl, below_row i3.2 (Nat.le_add_right _ 1) _⟩
    · have e1 : pkE F L l y = 1 := by unfold pkE; rw [if_neg (by rw [hk]; decide), if_neg hy]
      have e2 : pkR F L l y = Rc.nil := by unfold pkR; rw [e1]; rfl
      rw [e1, e2]; clear e1 e2 hk
      have hs : y < 1601 ∨ (1601 ≤ y ∧ 9999 < y) := by omega
      clear hy
      rcases hs with h1 | ⟨h1, h2⟩
      all_goals
        go_enter Tryd.func37, Tryd.ntmps37
        go_wp2_with (refine wpList_row_g rfl 40 _ rfl _ rfl _ _ _ _ x0 Tryd.underlying40 rfl (by kernel_rfl) ?_)
        refine hch.mono ?_; rintro e w1 ⟨rfl, hb1⟩
        have i2 := i1.call hb1
        have z1 := z0.below hb1 z0.lt
        clear hch x0 z0 i1 hb1
        go_wp2_with (refine wpList_store_g rfl 26 _ _ rfl rfl _ 0 z19 z19 rfl rfl _ _ z1 (by show 0 + 19 ≤ 19; decide) (by kernel_rfl) (by kernel_rfl) (by kernel_rfl) ?_)
        exact bodyPost_ret (results_re rfl _ _ _ _ _ _ rfl rfl (Blk.row z1 _) rfl) rfl ⟨rfl, below_row i2.2 (Nat.le_add_right _ 1) _⟩
theorem at_at {r : Rc} {Y t : Int} {w : World} (hT : Tab w) (B : r.Bd) (hk : r.ok = true) (h1 : 1601 ≤ Y) (h2 : Y ≤ 9999) :
    Calls Tryd.prog 38 #[r.V, .int .i64 Y, .int .i64 t] w fun e w' => e = .returned (.tuple #[stateV (r.off Y t) (r.sum Y t), .int .i64 0]) ∧ Below w.heap.size w w' := by
  have := At_any r.b r.c r.d r.p r.q Y t w hT B
  rwa [Rc.tr0 hk h1 h2, Rc.atO_eq hk h1 h2, Rc.atB_eq hk h1 h2] at this
theorem pick_bd {w : World} {B n : Nat} {A : Option Addr} {F L : Int} {l : List Rc} (hR : Recs w B A n l) (hk : tbOk F L l = true) (y : Int) : (pick F L l y).Bd := hR.2.2 _ (pick_mem hk y)
set_option maxRecDepth 20000 in
set_option maxHeartbeats 1600000 in
theorem tat_any (F L : Int) (A : Option Addr) (n c B : Nat) (l : List Rc) (s : Int) (w : World) (hT : Tab w) (hR : Recs w B A n l) (hB : B ≤ w.heap.size) (hm : n ≤ maxLen) (hs : -9223372036854775808 ≤ s ∧ s ≤ 9223372036854775807) :
    Calls Tryd.prog 41 #[tbV F L A n c, .int .i64 s] w fun e w' => e = .returned (.tuple #[stateV (tOff F L l s) (tSum F L l s), .int .i64 (atE F L l s)]) ∧ Below w.heap.size w w' := by
  have i0 := Civ.Inv.start hT
  have i1 := (i0.alloc (.cells (tbA F L A n c) 40)).alloc (.cells (stA0 0 false) 43)
  have x0 := (Blk.new w 40 (tbA F L A n c)).alloc (.cells (stA0 0 false) 43)
  have z0 := blk_at (w.alloc (.cells (tbA F L A n c) 40)) 43 (stA0 0 false) (sz1 _ _ rfl)
  have hch := check_any F L A n c B l _ i1.1 (hR.below (i1.2.mono hB)) (Nat.le_trans hB i1.2.size) hm
  have hyr := fun w' => Clk.year_any s w' hs.1 hs.2
  cases hk : tbOk F L l
  · have e1 : atE F L l s = 2 := by unfold atE; rw [if_pos hk]
    have e2 : tOff F L l s = 0 := by unfold tOff; rw [e1]; rfl
    have e3 : tSum F L l s = false := by unfold tSum; rw [e1]; rfl
    rw [show tbE F L l = 2 by unfold tbE; rw [hk]; rfl] at hch
    rw [e1, e2, e3]; clear e1 e2 e3 hk
    go_enter Tryd.func41, Tryd.ntmps41
    go_wp2_with (refine wpList_row_g rfl 40 _ rfl _ rfl _ _ _ _ x0 Tryd.underlying40 rfl (by kernel_rfl) ?_)
    refine hch.mono ?_; rintro e w1 ⟨rfl, hb1⟩
    have i2 := i1.call hb1
    have z1 := z0.below hb1 z0.lt
    clear hch x0 z0 i1 hb1
    go_wp2_with (refine wpList_store_g rfl 43 _ _ rfl rfl _ 0 (stA0 0 false) (stA0 0 false) rfl rfl _ _ z1 (by show 0 + 3 ≤ 3; decide) (by kernel_rfl) (by kernel_rfl) (by kernel_rfl) ?_)
    exact bodyPost_ret (results_se rfl _ _ _ _ _ _ rfl rfl (Blk.row z1 _) rfl) rfl ⟨rfl, below_row i2.2 (Nat.le_add_right _ 1) _⟩
  · rw [show tbE F L l = 0 by unfold tbE; rw [if_pos hk]] at hch
    by_cases hy : yrE s = 0 ∧ 1601 ≤ yrV s
    · have e1 : atE F L l s = 0 := by unfold atE; rw [if_neg (by rw [hk]; decide), if_pos hy]
      have e2 : tOff F L l s = (pick F L l (yrV s)).off (yrV s) s := by unfold tOff; rw [if_pos e1]
      have e3 : tSum F L l s = (pick F L l (yrV s)).sum (yrV s) s := by unfold tSum; rw [if_pos e1]
      obtain ⟨_, y2, _, _⟩ := yr_bd hy.1
      obtain ⟨y0, y1⟩ := hy
      rw [e1, e2, e3]; clear e1 e2 e3
      have hof := fun w' (h : Below w.heap.size w w') => of_any F L A n c B l (yrV s) w' (hR.below (h.mono hB)) (Nat.le_trans hB h.size) hk
      have hat := fun w' (hT : Tab w') => at_at (t := s) hT (pick_bd hR hk (yrV s)) (pick_ok hk (yrV s)) y1 y2
      rw [y0] at hyr
      clear hk
      generalize pick F L l (yrV s) = r at *
      generalize r.off (yrV s) s = o at *
      generalize r.sum (yrV s) s = k at *
      generalize yrV s = y at *
      clear y0
      go_enter Tryd.func41, Tryd.ntmps41
      go_wp2_with (refine wpList_row_g rfl 40 _ rfl _ rfl _ _ _ _ x0 Tryd.underlying40 rfl (by kernel_rfl) ?_)
      refine hch.mono ?_; rintro e w1 ⟨rfl, hb1⟩
      have i2 := i1.call hb1
      have x1 := x0.below hb1 x0.lt
      have z1 := z0.below hb1 z0.lt
      clear hch x0 z0 i1 hb1
      go_wp2_with fail
      refine (hyr _).mono ?_; rintro e w2 ⟨rfl, hb2⟩
      have i3 := i2.call hb2
      have x2 := x1.below hb2 x1.lt
      have z2 := z1.below hb2 z1.lt
      clear hyr x1 z1 i2 hb2
      go_wp2_with (refine wpList_row_g rfl 40 _ rfl _ rfl _ _ _ _ x2 Tryd.underlying40 rfl (by kernel_rfl) ?_)
      refine (hof _ i3.2).mono ?_; rintro e w3 ⟨rfl, hb3⟩
      have i4 := i3.call hb3
      have z3 := z2.below hb3 z2.lt
      clear hof x2 z2 i3 hb3
      go_wp2_with fail
      refine (hat _ i4.1).mono ?_; rintro e w4 ⟨rfl, hb4⟩
      have i5 := i4.call hb4
      have z4 := z3.below hb4 z3.lt
      clear hat z3 i4 hb4
      go_wp2_with (refine wpList_store_g rfl 43 _ _ rfl rfl _ 0 (stA0 o k) (stA0 o k) rfl rfl _ _ z4 (by show 0 + 3 ≤ 3; decide) (by kernel_rfl) (by kernel_rfl) (by kernel_rfl) ?_)
      exact bodyPost_ret (results_se rfl _ _ _ _ _ _ rfl rfl (Blk.row z4 _) rfl) rfl ⟨rfl, below_row i5.2 (Nat.le_add_right _ 1) _⟩
    · have e1 : atE F L l s = 1 := by unfold atE; rw [if_neg (by rw [hk]; decide), if_neg hy]
      have e2 : tOff F L l s = 0 := by unfold tOff; rw [e1]; rfl
      have e3 : tSum F L l s = false := by unfold tSum; rw [e1]; rfl
      rw [e1, e2, e3]; clear e1 e2 e3 hk
      have hs : (yrE s = 1 ∧ yrV s = 0) ∨ (yrE s = 0 ∧ yrV s < 1601) := by
        rcases yr_01 s with h | h
        · exact Or.inr ⟨h, by omega⟩
        · exact Or.inl h
      clear hy
      rcases hs with ⟨y0, y1⟩ | ⟨y0, y1⟩
      all_goals
        rw [y0] at hyr
        generalize yrV s = y at *
        clear y0
        go_enter Tryd.func41, Tryd.ntmps41
        go_wp2_with (refine wpList_row_g rfl 40 _ rfl _ rfl _ _ _ _ x0 Tryd.underlying40 rfl (by kernel_rfl) ?_)
        refine hch.mono ?_; rintro e w1 ⟨rfl, hb1⟩
        have i2 := i1.call hb1
        have z1 := z0.below hb1 z0.lt
        clear hch x0 z0 i1 hb1
        go_wp2_with fail
        refine (hyr _).mono ?_; rintro e w2 ⟨rfl, hb2⟩
        have i3 := i2.call hb2
        have z2 := z1.below hb2 z1.lt
        clear hyr z1 i2 hb2
        go_wp2_with (refine wpList_store_g rfl 43 _ _ rfl rfl _ 0 (stA0 0 false) (stA0 0 false) rfl rfl _ _ z2 (by show 0 + 3 ≤ 3; decide) (by kernel_rfl) (by kernel_rfl) (by kernel_rfl) ?_)
        exact bodyPost_ret (results_se rfl _ _ _ _ _ _ rfl rfl (Blk.row z2 _) rfl) rfl ⟨rfl, below_row i3.2 (Nat.le_add_right _ 1) _⟩
end Go.Proofs.YtefcjccapekjdaaDoor.Tb
