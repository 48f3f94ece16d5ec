/-
  YEARS: year.turns, walked.
-/
import Derived.Test.YtgdgkgeoigljcaaDoorYr
import Derived.Deep.RegionWith
namespace Go.Proofs.YtgdgkgeoigljcaaDoor.Yr
open Go.ChangeShapes Go.WideShapes Go.ChangeAt Go.RowKit
open Go.Proofs.YtgdgkgeoigljcaaDoor
open Go.Proofs.YtgdgkgeoigljcaaDoor.Wd
open Go.Proofs.YtgdgkgeoigljcaaDoor.Rec
open Go.Proofs.YtgdgkgeoigljcaaDoor.Civ (Tab Inv)
set_option linter.unusedVariables false
def trE (b c d : Int) (p q : St) (Y : Int) : Int := if rcOk b c d p q = false then 2 else if ¬ (1601 ≤ Y ∧ Y ≤ 9999) then 1 else 0
def trA (b c d : Int) (p q : St) (Y : Int) : Int := if trE b c d p q Y = 0 then secV q Y (offS b c) else 0
def trB (b c d : Int) (p q : St) (Y : Int) : Int := if trE b c d p q Y = 0 then secV p Y (offS b d) else 0
theorem results_2 {fn : Func} {p q : Tmp} (h : fn.results = #[.cell p 75, .tmp q]) (tmps : Array Value) (w : World) (g : Nat) (t : TypeId) (cs : Array Value) (v : Value)
    (hp : tmps.getD p undef = .pointer (some ⟨g, 0, none⟩)) (hq : tmps.getD q undef = v) (hg : w.heap[g]? = some (.cells cs t (0, 0))) (hs : cs.size = 2) :
    (results fn tmps).run Tryd.prog w = .ok (.tuple #[.agg cs, v]) w := by
  have hp' : tmps[p]?.getD undef = .pointer (some ⟨g, 0, none⟩) := by simpa using hp
  have hq' : tmps[q]?.getD undef = v := by simpa using hq
  have hi : (Tryd.prog.info? 75).map (·.size) = some cs.size := by rw [hs]; kernel_rfl
  simp [results, h, hp', hq', asAddr, run_loadVar_row w g t 75 cs (0, 0) _ hg Tryd.underlying75 rfl hi]
theorem sec8 (y m v d h i s u Y off : Int) (w : World) (hT : Tab w) (B : Stp.Bd y m v d h i s u) (ho : -1152921504606846976 ≤ off ∧ off ≤ 1152921504606846976) :
    Calls Tryd.prog 62 #[.agg #[.int .u16 y, .int .u16 m, .int .u16 v, .int .u16 d, .int .u16 h, .int .u16 i, .int .u16 s, .int .u16 u], .int .i64 Y, .int .i64 off] w fun e w' => e = .returned (.int .i64 (secV ⟨y, m, v, d, h, i, s, u⟩ Y off)) ∧ Below w.heap.size w w' :=
  second_any ⟨y, m, v, d, h, i, s, u⟩ Y off w hT B ho
set_option maxRecDepth 20000 in
set_option maxHeartbeats 3200000 in
theorem turns_any (b c d : Int) (p q : St) (Y : Int) (w : World) (hT : Tab w) (B : RBd b c d p q) :
    Calls Tryd.prog 44 #[rcV b c d p q, .int .i64 Y] w fun e w' => e = .returned (.tuple #[twoV (trA b c d p q Y) (trB b c d p q Y), .int .i64 (trE b c d p q Y)]) ∧ Below w.heap.size w w' := by
  have i0 := Civ.Inv.start hT
  have i1 := (i0.alloc (.cells (rcA b c d p q) 26)).alloc (.cells #[.int .i64 0, .int .i64 0] 75)
  have x0 := (Blk.new w 26 (rcA b c d p q)).alloc (.cells #[.int .i64 0, .int .i64 0] 75)
  have z0 := blk_at (w.alloc (.cells (rcA b c d p q) 26)) 75 #[.int .i64 0, .int .i64 0] (sz1 _ _ rfl)
  have hof := offS_bd B
  cases hr : rcOk b c d p q
  · have he : trE b c d p q Y = 2 := by unfold trE; rw [if_pos hr]
    have ha : trA b c d p q Y = 0 := by unfold trA; rw [he]; rfl
    have hb : trB b c d p q Y = 0 := by unfold trB; rw [he]; rfl
    have hch := chk_any b c d p q _ i1.1 B
    rw [show rcE b c d p q = 2 by unfold rcE; rw [hr]; rfl] at hch
    rw [he, ha, hb]; clear he ha hb hr
    go_enter Tryd.func44, Tryd.ntmps44
    go_wp2_with (refine wpList_row_g rfl 26 _ rfl _ rfl _ _ _ _ x0 Tryd.underlying26 rfl (by kernel_rfl) ?_)
    refine hch.mono ?_; rintro e w1 ⟨rfl, hb1⟩
    have z1 := z0.below hb1 z0.lt
    have i2 := i1.call hb1
    clear x0 z0 i1 hb1 hch
    go_wp2_with (refine wpList_store_seg rfl 75 _ _ rfl rfl _ 0 #[.int .i64 0, .int .i64 0] #[.int .i64 0, .int .i64 0] rfl rfl _ _ z1 (by show 0 + 2 ≤ 2; decide) (by kernel_rfl) (by kernel_rfl) (by kernel_rfl) ?_)
    exact bodyPost_ret (results_2 rfl _ _ _ _ _ _ rfl rfl (Blk.row z1 _) rfl) rfl ⟨rfl, below_row i2.2 (Nat.le_add_right _ 1) _⟩
  · have hch := chk_any b c d p q _ i1.1 B
    rw [show rcE b c d p q = 0 by unfold rcE; rw [if_pos hr]] at hch
    by_cases hY : 1601 ≤ Y ∧ Y ≤ 9999
    · have he : trE b c d p q Y = 0 := by unfold trE; rw [if_neg (by rw [hr]; decide), if_neg (by simpa using hY)]
      have ha : trA b c d p q Y = secV q Y (offS b c) := by unfold trA; rw [if_pos he]
      have hb : trB b c d p q Y = secV p Y (offS b d) := by unfold trB; rw [if_pos he]
      rw [he, ha, hb]; clear he ha hb hr
      have hoff : ∀ w, Calls Tryd.prog 16 #[rcV b c d p q] w fun e w' => e = .returned (.tuple #[.int .i64 (offS b c), .int .i64 (offS b d)]) ∧ Below w.heap.size w w' := fun w => offs_any b c d p q w B
      have hBq : Stp.Bd q.y q.m q.v q.d q.h q.i q.s q.u := B.q
      have hBp : Stp.Bd p.y p.m p.v p.d p.h p.i p.s p.u := B.p
      have ho1 := hof.1
      have ho2 := hof.2
      clear hof B
      obtain ⟨s1, hq⟩ : ∃ z, secV q Y (offS b c) = z := ⟨_, rfl⟩
      obtain ⟨s2, hp⟩ : ∃ z, secV p Y (offS b d) = z := ⟨_, rfl⟩
      rw [hq, hp]
      have HQ := Lib.hid hq; have HP := Lib.hid hp
      clear hq hp
      generalize offS b c = o1 at *
      generalize offS b d = o2 at *
      go_enter Tryd.func44, Tryd.ntmps44
      go_wp2_with (refine wpList_row_g rfl 26 _ rfl _ rfl _ _ _ _ x0 Tryd.underlying26 rfl (by kernel_rfl) ?_)
      refine hch.mono ?_; rintro e w1 ⟨rfl, hb1⟩
      have x1 := x0.below hb1 x0.lt
      have z1 := z0.below hb1 z0.lt
      have i2 := i1.call hb1
      clear x0 z0 i1 hb1 hch
      go_wp2_with (refine wpList_row_g rfl 26 _ rfl _ rfl _ _ _ _ x1 Tryd.underlying26 rfl (by kernel_rfl) ?_)
      refine (hoff _).mono ?_; rintro e w2 ⟨rfl, hb2⟩
      have x2 := x1.below hb2 x1.lt
      have z2 := z1.below hb2 z1.lt
      have i3 := i2.call hb2
      clear x1 z1 i2 hb2 hoff
      go_wp2_with fail
      have xd : Blk w2.drew _ _ _ := x2
      have zd : Blk w2.drew _ _ _ := z2
      have iv := i3.drew
      clear x2 z2 i3
      have c3 := xd.cell 3; have c4 := xd.cell 4; have c5 := xd.cell 5; have c6 := xd.cell 6; have c7 := xd.cell 7; have c8 := xd.cell 8; have c9 := xd.cell 9; have c10 := xd.cell 10; have c11 := xd.cell 11; have c12 := xd.cell 12; have c13 := xd.cell 13; have c14 := xd.cell 14; have c15 := xd.cell 15; have c16 := xd.cell 16; have c17 := xd.cell 17; have c18 := xd.cell 18; simp at c3 c4 c5 c6 c7 c8 c9 c10 c11 c12 c13 c14 c15 c16 c17 c18
      have d0 := zd.cell 0; have d1 := zd.cell 1; simp at d0 d1; have f0 := zd.frozen 0; have f1 := zd.frozen 1
      go_region_with ((go_at_call 62; refine (sec8 _ _ _ _ _ _ _ _ Y _ _ iv.1 (by assumption) (by assumption)).mono ?_; rintro e wn ⟨rfl, hbn⟩; replace xd := xd.below hbn xd.lt; replace zd := zd.below hbn zd.lt; replace iv := iv.call hbn; clear f0 f1 c3 c4 c5 c6 c7 c8 c9 c10 c11 c12 c13 c14 c15 c16 c17 c18 d0 d1; have c3 := xd.cell 3; have c4 := xd.cell 4; have c5 := xd.cell 5; have c6 := xd.cell 6; have c7 := xd.cell 7; have c8 := xd.cell 8; have c9 := xd.cell 9; have c10 := xd.cell 10; have c11 := xd.cell 11; have c12 := xd.cell 12; have c13 := xd.cell 13; have c14 := xd.cell 14; have c15 := xd.cell 15; have c16 := xd.cell 16; have c17 := xd.cell 17; have c18 := xd.cell 18; simp at c3 c4 c5 c6 c7 c8 c9 c10 c11 c12 c13 c14 c15 c16 c17 c18; have d0 := zd.cell 0; have d1 := zd.cell 1; simp at d0 d1; have f0 := zd.frozen 0; have f1 := zd.frozen 1; clear hbn))
      all_goals
        rw [show secV ⟨q.y, q.m, q.v, q.d, q.h, q.i, q.s, q.u⟩ Y o1 = s1 from HQ.out, show secV ⟨p.y, p.m, p.v, p.d, p.h, p.i, p.s, p.u⟩ Y o2 = s2 from HP.out]
        clear HQ HP
        have zf := (zd.set_ 0 (.int .i64 s1)).set_ 1 (.int .i64 s2)
        have bf := (iv.2.setCell (p := ⟨w.heap.size + 1, 0, none⟩) (Nat.le_add_right _ 1) (.int .i64 s1)).setCell (p := ⟨w.heap.size + 1, 1, none⟩) (Nat.le_add_right _ 1) (.int .i64 s2)
        go_wp2_with fail
        exact bodyPost_ret (results_2 rfl _ _ _ _ _ _ rfl rfl zf rfl) rfl ⟨rfl, bf⟩
    · have hn : trE b c d p q Y = 1 := by unfold trE; rw [if_neg (by rw [hr]; decide), if_pos hY]
      have ha : trA b c d p q Y = 0 := by unfold trA; rw [hn]; rfl
      have hb : trB b c d p q Y = 0 := by unfold trB; rw [hn]; rfl
      rw [hn, ha, hb]; clear hn ha hb hr
      have hY2 : Y < 1601 ∨ (1601 ≤ Y ∧ 9999 < Y) := by omega
      clear hY
      rcases hY2 with h1 | ⟨h1, h2⟩
      all_goals
        go_enter Tryd.func44, Tryd.ntmps44
        go_wp2_with (refine wpList_row_g rfl 26 _ rfl _ rfl _ _ _ _ x0 Tryd.underlying26 rfl (by kernel_rfl) ?_)
        refine hch.mono ?_; rintro e w1 ⟨rfl, hb1⟩
        have z1 := z0.below hb1 z0.lt
        have i2 := i1.call hb1
        clear x0 z0 i1 hb1 hch
        go_wp2_with (refine wpList_store_g rfl 75 _ _ rfl rfl _ 0 #[.int .i64 0, .int .i64 0] #[.int .i64 0, .int .i64 0] rfl rfl _ _ z1 (by show 0 + 2 ≤ 2; decide) (by kernel_rfl) (by kernel_rfl) (by kernel_rfl) ?_)
        exact bodyPost_ret (results_2 rfl _ _ _ _ _ _ rfl rfl (Blk.row z1 _) rfl) rfl ⟨rfl, below_row i2.2 (Nat.le_add_right _ 1) _⟩
end Go.Proofs.YtgdgkgeoigljcaaDoor.Yr
