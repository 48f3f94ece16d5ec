/-
  LOCAL: local.tries, To, From, Second, walked.
-/
import Derived.Test.YtefcjccapekjdaaDoorTbP
namespace Go.Proofs.YtefcjccapekjdaaDoor.Tb
open Go.ChangeShapes Go.WideShapes Go.ChangeAt Go.RowKit
open Go.Proofs.YtefcjccapekjdaaDoor
open Go.Proofs.YtefcjccapekjdaaDoor.Wd
open Go.Proofs.YtefcjccapekjdaaDoor.Rec
open Go.Proofs.YtefcjccapekjdaaDoor.Yr
open Go.Proofs.YtefcjccapekjdaaDoor.Clk (yrV yrE)
open Go.Proofs.YtefcjccapekjdaaDoor.Civ (Tab Inv)
set_option linter.unusedVariables false
theorem pick_at {F L : Int} {A : Option Addr} {n c B : Nat} {l : List Rc} {y : Int} {w : World} (hT : Tab w) (hR : Recs w B A n l) (hB : B ≤ w.heap.size) (hm : n ≤ maxLen) (hk : tbOk F L l = true) (h1 : 1601 ≤ y) (h2 : y ≤ 9999) :
    Calls Tryd.prog 37 #[tbV F L A n c, .int .i64 y] w fun e w' => e = .returned (.tuple #[(pick F L l y).V, .int .i64 0]) ∧ Below w.heap.size w w' := by
  have := pick_any F L A n c B l y w hT hR hB hm
  have e1 : pkE F L l y = 0 := by unfold pkE; rw [if_neg (by rw [hk]; decide), if_pos ⟨h1, h2⟩]
  have e2 : pkR F L l y = pick F L l y := by unfold pkR; rw [if_pos e1]
  rwa [e1, e2] at this
set_option maxRecDepth 20000 in
set_option maxHeartbeats 3200000 in
theorem tries_any (F L : Int) (A : Option Addr) (n m B : Nat) (l : List Rc) (c : Int) (w : World) (hT : Tab w) (hR : Recs w B A n l) (hB : B ≤ w.heap.size) (hm : n ≤ maxLen) (hs : -9223372036854775808 ≤ c ∧ c ≤ 9223372036854775807) :
    Calls Tryd.prog 92 #[tbV F L A n m, .int .i64 c] w fun e w' => e = .returned (.tuple #[.int .i64 (trS F L l c), .int .i64 (trD F L l c), .bool (isS F L l c), .bool (isD F L l c), .int .i64 (atE F L l c)]) ∧ Below w.heap.size w w' := by
  have i0 := Civ.Inv.start hT
  have i1 := i0.alloc (.cells (tbA F L A n m) 40)
  have x0 := Blk.new w 40 (tbA F L A n m)
  have hch := check_any F L A n m B l _ i1.1 (hR.below (i1.2.mono hB)) (Nat.le_trans hB i1.2.size) hm
  have hyr := fun w' => Clk.year_any c w' hs.1 hs.2
  cases hk : tbOk F L l
  · have e1 : atE F L l c = 2 := by unfold atE; rw [if_pos hk]
    rw [show tbE F L l = 2 by unfold tbE; rw [hk]; rfl] at hch
    rw [show trS F L l c = 0 by unfold trS; rw [e1]; rfl, show trD F L l c = 0 by unfold trD; rw [e1]; rfl, show isS F L l c = false by unfold isS; rw [e1]; rfl, show isD F L l c = false by unfold isD; rw [e1]; rfl, e1]
    clear e1 hk
    go_enter Tryd.func92, Tryd.ntmps92
    go_wp2_with (refine wpList_row_g rfl 40 _ rfl _ rfl _ _ _ _ x0 Tryd.underlying40 rfl (by kernel_rfl) ?_)
    refine hch.mono ?_; rintro e w1 ⟨rfl, hb1⟩
    have i2 := i1.call hb1
    clear hch x0 i1 hb1
    go_wp2_with fail
    exact bodyPost_ret (by simp [results]) rfl ⟨rfl, i2.2⟩
  · rw [show tbE F L l = 0 by unfold tbE; rw [if_pos hk]] at hch
    by_cases hy : yrE c = 0 ∧ 1601 ≤ yrV c
    · have e1 : atE F L l c = 0 := by unfold atE; rw [if_neg (by rw [hk]; decide), if_pos hy]
      have e2 : trS F L l c = c - (pick F L l (yrV c)).std := by unfold trS; rw [if_pos e1]
      have e3 : trD F L l c = c - (pick F L l (yrV c)).dst := by unfold trD; rw [if_pos e1]
      have e4 : isS F L l c = !(pick F L l (yrV c)).sum (yrV c) (c - (pick F L l (yrV c)).std) := by unfold isS; rw [if_pos e1]
      have e5 : isD F L l c = (pick F L l (yrV c)).sum (yrV c) (c - (pick F L l (yrV c)).dst) := by unfold isD; rw [if_pos e1]
      obtain ⟨_, y2, c1, c2⟩ := yr_bd hy.1
      obtain ⟨y0, y1⟩ := hy
      rw [e1, e2, e3, e4, e5]; clear e1 e2 e3 e4 e5
      have hpk := fun w' (hT : Tab w') (h : Below w.heap.size w w') => pick_at (c := m) hT (hR.below (h.mono hB)) (Nat.le_trans hB h.size) hm hk y1 y2
      have hat := fun t w' (hT : Tab w') => at_at (t := t) hT (pick_bd hR hk (yrV c)) (pick_ok hk (yrV c)) y1 y2
      have hbd := pick_bd hR hk (yrV c)
      have hne := Rc.near (pick_ok hk (yrV c))
      rw [y0] at hyr
      clear hk
      generalize pick F L l (yrV c) = r at *
      have hof : ∀ w', Calls Tryd.prog 16 #[r.V] w' fun e w'' => e = .returned (.tuple #[.int .i64 r.std, .int .i64 r.dst]) ∧ Below w'.heap.size w' w'' := fun w' => offs_any r.b r.c r.d r.p r.q w' hbd
      have ha1 := hat (c - r.std)
      have ha2 := hat (c - r.dst)
      generalize r.sum (yrV c) (c - r.std) = k1 at *
      generalize r.sum (yrV c) (c - r.dst) = k2 at *
      generalize r.off (yrV c) (c - r.std) = o1 at *
      generalize r.off (yrV c) (c - r.dst) = o2 at *
      obtain ⟨⟨n1, n2⟩, n3, n4⟩ := hne
      generalize r.std = sd at *
      generalize r.dst = dd at *
      generalize yrV c = y at *
      clear y0 hat hbd
      go_enter Tryd.func92, Tryd.ntmps92
      go_wp2_with (refine wpList_row_g rfl 40 _ rfl _ rfl _ _ _ _ x0 Tryd.underlying40 rfl (by kernel_rfl) ?_)
      refine hch.mono ?_; rintro e w1 ⟨rfl, hb1⟩
      have i2 := i1.call hb1
      have x1 := x0.below hb1 x0.lt
      clear hch x0 i1 hb1
      go_wp2_with fail
      refine (hyr _).mono ?_; rintro e w2 ⟨rfl, hb2⟩
      have i3 := i2.call hb2
      have x2 := x1.below hb2 x1.lt
      clear hyr x1 i2 hb2
      go_wp2_with (refine wpList_row_g rfl 40 _ rfl _ rfl _ _ _ _ x2 Tryd.underlying40 rfl (by kernel_rfl) ?_)
      refine (hpk _ i3.1 i3.2).mono ?_; rintro e w3 ⟨rfl, hb3⟩
      have i4 := (i3.call hb3).alloc (.cells r.A 26)
      have r4 := Blk.new w3 26 r.A
      clear hpk x2 i3 hb3
      go_wp2_with (first | refine wpList_store_new rfl 26 _ _ rfl rfl w3.heap.size r.A rfl rfl _ z19 w3 rfl rfl rfl (by kernel_rfl) (by kernel_rfl) ?_ | refine wpList_row_g rfl 26 _ rfl _ rfl _ _ _ _ r4 Tryd.underlying26 rfl (by kernel_rfl) ?_)
      refine (hof _).mono ?_; rintro e w4 ⟨rfl, hb4⟩
      have i5 := i4.call hb4
      have r5 := r4.below hb4 r4.lt
      clear hof r4 i4 hb4
      go_wp2_with (refine wpList_row_g rfl 26 _ rfl _ rfl _ _ _ _ r5 Tryd.underlying26 rfl (by kernel_rfl) ?_)
      refine (ha1 _ i5.1).mono ?_; rintro e w5 ⟨rfl, hb5⟩
      have i6 := (i5.call hb5).alloc (.cells (stA0 o1 k1) 43)
      have r6 := (r5.below hb5 r5.lt).alloc (.cells (stA0 o1 k1) 43)
      have s6 := Blk.new w5 43 (stA0 o1 k1)
      clear ha1 r5 i5 hb5
      go_wp2_with (first | refine wpList_store_new rfl 43 _ _ rfl rfl w5.heap.size (stA0 o1 k1) rfl rfl _ (stA0 0 false) w5 rfl rfl rfl (by kernel_rfl) (by kernel_rfl) ?_ | refine wpList_row_g rfl 26 _ rfl _ rfl _ _ _ _ r6 Tryd.underlying26 rfl (by kernel_rfl) ?_)
      refine (ha2 _ i6.1).mono ?_; rintro e w6 ⟨rfl, hb6⟩
      have i7 := (i6.call hb6).alloc (.cells (stA0 o2 k2) 43)
      have s7 := (s6.below hb6 s6.lt).alloc (.cells (stA0 o2 k2) 43)
      have u7 := Blk.new w6 43 (stA0 o2 k2)
      clear ha2 r6 s6 i6 hb6
      have d1 := s7.cell 1; have d2 := u7.cell 1; simp at d1 d2
      go_wp2_with (first | refine wpList_store_new rfl 43 _ _ rfl rfl w6.heap.size (stA0 o2 k2) rfl rfl _ (stA0 0 false) w6 rfl rfl rfl (by kernel_rfl) (by kernel_rfl) ?_)
      go_quiet (fail)
      go_wp2_with fail
      exact bodyPost_ret (by simp [results]) rfl ⟨rfl, bdrewN i7.2 _⟩
    · have e1 : atE F L l c = 1 := by unfold atE; rw [if_neg (by rw [hk]; decide), if_neg hy]
      rw [show trS F L l c = 0 by unfold trS; rw [e1]; rfl, show trD F L l c = 0 by unfold trD; rw [e1]; rfl, show isS F L l c = false by unfold isS; rw [e1]; rfl, show isD F L l c = false by unfold isD; rw [e1]; rfl, e1]
      clear e1 hk
      have hs : (yrE c = 1 ∧ yrV c = 0) ∨ (yrE c = 0 ∧ yrV c < 1601) := by
        rcases yr_01 c with h | h
        · exact Or.inr ⟨h, by omega⟩
        · exact Or.inl h
      clear hy
      rcases hs with ⟨y0, y1⟩ | ⟨y0, y1⟩
      all_goals
        rw [y0] at hyr
        generalize yrV c = y at *
        clear y0
        go_enter Tryd.func92, Tryd.ntmps92
        go_wp2_with (refine wpList_row_g rfl 40 _ rfl _ rfl _ _ _ _ x0 Tryd.underlying40 rfl (by kernel_rfl) ?_)
        refine hch.mono ?_; rintro e w1 ⟨rfl, hb1⟩
        have i2 := i1.call hb1
        clear hch x0 i1 hb1
        go_wp2_with fail
        refine (hyr _).mono ?_; rintro e w2 ⟨rfl, hb2⟩
        have i3 := i2.call hb2
        clear hyr i2 hb2
        go_wp2_with fail
        exact bodyPost_ret (by simp [results]) rfl ⟨rfl, i3.2⟩
theorem to_bd {F L : Int} {l : List Rc} {s : Int} (h : atE F L l s = 0) : (-62135596800 ≤ s ∧ s ≤ 253402300799) ∧ (-86400 ≤ tOff F L l s ∧ tOff F L l s ≤ 86400) := by
  have h' := atE_0.1 h
  have hy := yr_bd h'.2.1
  refine ⟨hy.2.2, ?_⟩
  unfold tOff; rw [if_pos h]; exact Rc.off_near (pick_ok h'.1 _) _ _
theorem results_to {fn : Func} {p q r : Tmp} (h : fn.results = #[.tmp p, .cell q 43, .tmp r]) (tmps : Array Value) (w : World) (g : Nat) (t : TypeId) (cs : Array Value) (v v' : Value)
    (hp : tmps.getD p undef = v) (hq : tmps.getD q undef = .pointer (some ⟨g, 0, none⟩)) (hr : tmps.getD r undef = v') (hg : w.heap[g]? = some (.cells cs t (0, 0))) (hs : cs.size = 3) :
    (results fn tmps).run Tryd.prog w = .ok (.tuple #[v, .agg cs, v']) w := by
  have hp' : tmps[p]?.getD undef = v := by simpa using hp
  have hq' : tmps[q]?.getD undef = .pointer (some ⟨g, 0, none⟩) := by simpa using hq
  have hr' : tmps[r]?.getD undef = v' := by simpa using hr
  have hi : (Tryd.prog.info? 43).map (·.size) = some cs.size := by rw [hs]; kernel_rfl
  simp [results, h, hp', hq', hr', asAddr, run_loadVar_row w g t 43 cs (0, 0) _ hg Tryd.underlying43 rfl hi]
set_option maxRecDepth 20000 in
set_option maxHeartbeats 3200000 in
theorem to_any (F L : Int) (A : Option Addr) (n m B : Nat) (l : List Rc) (s : Int) (w : World) (hT : Tab w) (hR : Recs w B A n l) (hB : B ≤ w.heap.size) (hm : n ≤ maxLen) (hs : -9223372036854775808 ≤ s ∧ s ≤ 9223372036854775807) :
    Calls Tryd.prog 30 #[tbV F L A n m, .int .i64 s] w fun e w' => e = .returned (.tuple #[.int .i64 (toC F L l s), stateV (tOff F L l s) (tSum F L l s), .int .i64 (atE F L l s)]) ∧ Below w.heap.size w w' := by
  have i0 := Civ.Inv.start hT
  have i1 := (i0.alloc (.cells (tbA F L A n m) 40)).alloc (.cells (stA0 0 false) 43)
  have x0 := (Blk.new w 40 (tbA F L A n m)).alloc (.cells (stA0 0 false) 43)
  have z0 := blk_at (w.alloc (.cells (tbA F L A n m) 40)) 43 (stA0 0 false) (sz1 _ _ rfl)
  have hat := tat_any F L A n m B l s _ i1.1 (hR.below (i1.2.mono hB)) (Nat.le_trans hB i1.2.size) hm hs
  by_cases he : atE F L l s = 0
  · have e1 : toC F L l s = s + tOff F L l s := by unfold toC; rw [if_pos he]
    obtain ⟨⟨s1, s2⟩, o1, o2⟩ := to_bd he
    rw [he] at hat; rw [e1, he]; clear e1 he
    generalize tOff F L l s = o at *
    generalize tSum F L l s = k at *
    go_enter Tryd.func30, Tryd.ntmps30
    go_wp2_with (refine wpList_row_g rfl 40 _ rfl _ rfl _ _ _ _ x0 Tryd.underlying40 rfl (by kernel_rfl) ?_)
    refine hat.mono ?_; rintro e w1 ⟨rfl, hb1⟩
    have i2 := (i1.call hb1).alloc (.cells (stA0 o k) 43)
    have z1 := (z0.below hb1 z0.lt).alloc (.cells (stA0 o k) 43)
    have y1 := Blk.new w1 43 (stA0 o k)
    have hsz := hb1.size
    clear hat x0 z0 i1 hb1
    have d0 := y1.cell 0; have d1 := y1.cell 1; have d2 := y1.cell 2; simp at d0 d1 d2
    have f0 := z1.frozen 0; have f1 := z1.frozen 1; have f2 := z1.frozen 2
    have e0 := z1.cell 0; have e1 := z1.cell 1; have e2 := z1.cell 2; simp at e0 e1 e2
    go_wp2_with (first | refine wpList_store_new rfl 43 _ _ rfl rfl w1.heap.size (stA0 o k) rfl rfl _ (stA0 0 false) w1 rfl rfl rfl (by kernel_rfl) (by kernel_rfl) ?_)
    go_region
    have zf : Blk (((((w1.alloc (.cells (stA0 o k) 43)).setCell ⟨w.heap.size + 1, 0, none⟩ (.int .i64 o)).setCell ⟨w.heap.size + 1, 1, none⟩ (.bool k)).setCell ⟨w.heap.size + 1, 2, none⟩ (.string ⟨#[]⟩)).drew) (w.heap.size + 1) 43 (stA0 o k) := ((z1.set_ 0 _).set_ 1 _).set_ 2 _
    have bf := ((i2.2.setCell (p := ⟨w.heap.size + 1, 0, none⟩) (Nat.le_add_right _ 1) (.int .i64 o)).setCell (p := ⟨w.heap.size + 1, 1, none⟩) (Nat.le_add_right _ 1) (.bool k)).setCell (p := ⟨w.heap.size + 1, 2, none⟩) (Nat.le_add_right _ 1) (.string ⟨#[]⟩)
    all_goals
      go_wp2_with fail
      exact bodyPost_ret (results_to rfl _ _ _ _ _ _ _ rfl rfl rfl zf rfl) rfl ⟨rfl, bdrewN bf 1⟩
  · have e1 : toC F L l s = 0 := by unfold toC; rw [if_neg he]
    have e2 : tOff F L l s = 0 := by unfold tOff; rw [if_neg he]
    have e3 : tSum F L l s = false := by unfold tSum; rw [if_neg he]
    have heb : (atE F L l s != 0) = true := by simp [he]
    rw [e2, e3] at hat; rw [e1, e2, e3]; clear e1 e2 e3 he
    generalize atE F L l s = E at *
    go_enter Tryd.func30, Tryd.ntmps30
    go_wp2_with (refine wpList_row_g rfl 40 _ rfl _ rfl _ _ _ _ x0 Tryd.underlying40 rfl (by kernel_rfl) ?_)
    refine hat.mono ?_; rintro e w1 ⟨rfl, hb1⟩
    have i2 := (i1.call hb1).alloc (.cells (stA0 0 false) 43)
    have z1 := (z0.below hb1 z0.lt).alloc (.cells (stA0 0 false) 43)
    clear hat x0 z0 i1 hb1
    go_wp2_with (first | refine wpList_store_new rfl 43 _ _ rfl rfl w1.heap.size (stA0 0 false) rfl rfl _ (stA0 0 false) w1 rfl rfl rfl (by kernel_rfl) (by kernel_rfl) ?_ | refine wpList_store_g rfl 43 _ _ rfl rfl _ 0 (stA0 0 false) (stA0 0 false) rfl rfl _ _ z1 (by show 0 + 3 ≤ 3; decide) (by kernel_rfl) (by kernel_rfl) (by kernel_rfl) ?_)
    exact bodyPost_ret (results_to rfl _ _ _ _ _ _ _ rfl rfl rfl (Blk.row z1 _) rfl) rfl ⟨rfl, below_row i2.2 (Nat.le_add_right _ 1) _⟩
theorem tr_no {F L : Int} {l : List Rc} {c : Int} (he : atE F L l c ≠ 0) : trS F L l c = 0 ∧ trD F L l c = 0 ∧ isS F L l c = false ∧ isD F L l c = false :=
  ⟨by unfold trS; rw [if_neg he], by unfold trD; rw [if_neg he], by unfold isS; rw [if_neg he], by unfold isD; rw [if_neg he]⟩
set_option maxRecDepth 20000 in
set_option maxHeartbeats 3200000 in
theorem from_any (F L : Int) (A : Option Addr) (n m B : Nat) (l : List Rc) (c : Int) (w : World) (hT : Tab w) (hR : Recs w B A n l) (hB : B ≤ w.heap.size) (hm : n ≤ maxLen) (hs : -9223372036854775808 ≤ c ∧ c ≤ 9223372036854775807) :
    Calls Tryd.prog 32 #[tbV F L A n m, .int .i64 c] w fun e w' => e = .returned (.tuple #[.int .i64 (frC F L l c), .int .u8 (frH F L l c), .int .i64 (atE F L l c)]) ∧ Below w.heap.size w w' := by
  have i0 := Civ.Inv.start hT
  have i1 := i0.alloc (.cells (tbA F L A n m) 40)
  have x0 := Blk.new w 40 (tbA F L A n m)
  have htr := tries_any F L A n m B l c _ i1.1 (hR.below (i1.2.mono hB)) (Nat.le_trans hB i1.2.size) hm hs
  by_cases he : atE F L l c = 0
  · have hH : frH F L l c = (if isS F L l c = true then (if isD F L l c = true then 2 else 1) else if isD F L l c = true then 1 else 3) := by unfold frH; rw [if_pos he]
    rw [hH]; clear hH
    unfold frC
    rw [he] at htr; rw [he]; clear he
    generalize trS F L l c = a at *
    generalize trD F L l c = b at *
    generalize isS F L l c = p at *
    generalize isD F L l c = q at *
    have hab : a < b ∨ b ≤ a := by omega
    rcases hab with hab | hab
    all_goals
      cases p <;> cases q
      all_goals
        go_enter Tryd.func32, Tryd.ntmps32
        go_wp2_with (refine wpList_row_g rfl 40 _ rfl _ rfl _ _ _ _ x0 Tryd.underlying40 rfl (by kernel_rfl) ?_)
        refine htr.mono ?_; rintro e w1 ⟨rfl, hb1⟩
        have i2 := i1.call hb1
        clear htr x0 i1 hb1
        go_wp2_with fail
        go_ret3
        exact ⟨by first | (simp; done) | (simp; omega), i2.2⟩
  · obtain ⟨h1, h2, h3, h4⟩ := tr_no he
    have hH : frH F L l c = 0 := by unfold frH; rw [if_neg he]
    have hC : frC F L l c = 0 := by unfold frC; rw [h1, h2, h3, h4]; rfl
    have heb : (atE F L l c != 0) = true := by simp [he]
    rw [h1, h2, h3, h4] at htr; rw [hH, hC]; clear h1 h2 h3 h4 hH hC he
    generalize atE F L l c = E at *
    go_enter Tryd.func32, Tryd.ntmps32
    go_wp2_with (refine wpList_row_g rfl 40 _ rfl _ rfl _ _ _ _ x0 Tryd.underlying40 rfl (by kernel_rfl) ?_)
    refine htr.mono ?_; rintro e w1 ⟨rfl, hb1⟩
    have i2 := i1.call hb1
    clear htr x0 i1 hb1
    go_wp2_with fail
    exact bodyPost_ret (by simp [results]) rfl ⟨rfl, i2.2⟩
set_option maxRecDepth 20000 in
set_option maxHeartbeats 3200000 in
theorem second_any (F L : Int) (A : Option Addr) (n m B : Nat) (l : List Rc) (c : Int) (w : World) (hT : Tab w) (hR : Recs w B A n l) (hB : B ≤ w.heap.size) (hm : n ≤ maxLen) (hs : -9223372036854775808 ≤ c ∧ c ≤ 9223372036854775807) :
    Calls Tryd.prog 34 #[tbV F L A n m, .int .i64 c] w fun e w' => e = .returned (.tuple #[.int .i64 (seC F L l c), .bool (seB F L l c)]) ∧ Below w.heap.size w w' := by
  have i0 := Civ.Inv.start hT
  have i1 := i0.alloc (.cells (tbA F L A n m) 40)
  have x0 := Blk.new w 40 (tbA F L A n m)
  have htr := tries_any F L A n m B l c _ i1.1 (hR.below (i1.2.mono hB)) (Nat.le_trans hB i1.2.size) hm hs
  unfold seC seB
  by_cases he : atE F L l c = 0
  · rw [he] at htr; clear he
    generalize trS F L l c = a at *
    generalize trD F L l c = b at *
    generalize isS F L l c = p at *
    generalize isD F L l c = q at *
    cases p <;> cases q
    all_goals
      go_enter Tryd.func34, Tryd.ntmps34
      go_wp2_with (refine wpList_row_g rfl 40 _ rfl _ rfl _ _ _ _ x0 Tryd.underlying40 rfl (by kernel_rfl) ?_)
      refine htr.mono ?_; rintro e w1 ⟨rfl, hb1⟩
      have i2 := i1.call hb1
      clear htr x0 i1 hb1
      go_wp2_with fail
      go_ret2
      exact ⟨by simp, i2.2⟩
  · obtain ⟨h1, h2, h3, h4⟩ := tr_no he
    have heb : (atE F L l c != 0) = true := by simp [he]
    rw [h1, h2, h3, h4] at htr; rw [h2, h3, h4]; clear h1 h2 h3 h4 he
    generalize atE F L l c = E at *
    go_enter Tryd.func34, Tryd.ntmps34
    go_wp2_with (refine wpList_row_g rfl 40 _ rfl _ rfl _ _ _ _ x0 Tryd.underlying40 rfl (by kernel_rfl) ?_)
    refine htr.mono ?_; rintro e w1 ⟨rfl, hb1⟩
    have i2 := i1.call hb1
    clear htr x0 i1 hb1
    go_wp2_with fail
    go_ret2
    exact ⟨rfl, i2.2⟩
end Go.Proofs.YtefcjccapekjdaaDoor.Tb
