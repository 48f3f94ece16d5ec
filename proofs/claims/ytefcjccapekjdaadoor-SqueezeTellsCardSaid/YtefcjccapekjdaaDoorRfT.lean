/-
  THE REFERENCE, walked: when a record's clocks turn; what holds.
-/
import Derived.Test.YtefcjccapekjdaaDoorRfR
namespace Go.Proofs.YtefcjccapekjdaaDoor.Rf
open Go.ChangeShapes Go.WideShapes Go.ChangeAt Go.RowKit
open Go.Proofs.YtefcjccapekjdaaDoor
open Go.Proofs.YtefcjccapekjdaaDoor.Wd
open Go.Proofs.YtefcjccapekjdaaDoor.Rec
open Go.Proofs.YtefcjccapekjdaaDoor.Yr (leS lcS secV lc_bd ceil_hi ceil_lo twoV sumB offS_bd stO stA0 stateV trE trA trB atO atB results_se)
open Go.Proofs.YtefcjccapekjdaaDoor.Civ (Tab Inv ret_int dateE dateV ret_two)
set_option linter.unusedVariables false
theorem rturn8 (y m v d h i s u Y off : Int) (w : World) (hT : Tab w) (B : Stp.Bd y m v d h i s u) (ho : -1152921504606846976 ≤ off ∧ off ≤ 1152921504606846976) :
    Calls Tryd.prog 145 #[.agg #[.int .u16 y, .int .u16 m, .int .u16 v, .int .u16 d, .int .u16 h, .int .u16 i, .int .u16 s, .int .u16 u], .int .i64 Y, .int .i64 off] w fun e w' => e = .returned (.int .i64 (secV ⟨y, m, v, d, h, i, s, u⟩ Y off)) ∧ Below w.heap.size w w' :=
  rturn_any ⟨y, m, v, d, h, i, s, u⟩ Y off w hT B ho
set_option maxRecDepth 100000 in
set_option maxHeartbeats 8000000 in
theorem rTurns_any (b c d : Int) (p q : St) (Y : Int) (w : World) (hT : Tab w) (B : RBd b c d p q) :
    Calls Tryd.prog 131 #[rcV b c d p q, .int .i64 Y] w fun e w' => e = .returned (.tuple #[.int .i64 (trA b c d p q Y), .int .i64 (trB b c d p q Y), .int .i64 (trE b c d p q Y)]) ∧ Below w.heap.size w w' := by
  have i0 := Civ.Inv.start hT
  have hch := fun w hT => rrc_any b c d p q w hT B
  have hof := fun w => roffs_any b c d p q w B
  have hob := offS_bd B
  cases hr : rcOk b c d p q
  · have he : trE b c d p q Y = 2 := by unfold trE; rw [if_pos hr]
    have ha : trA b c d p q Y = 0 := by unfold trA; rw [he]; rfl
    have hb : trB b c d p q Y = 0 := by unfold trB; rw [he]; rfl
    rw [show rcE b c d p q = 2 by unfold rcE; rw [hr]; rfl] at hch
    rw [he, ha, hb]; clear he ha hb hr hof hob
    go_enter Tryd.func131, Tryd.ntmps131
    go_wp2_with (first | refine wpList_row_g rfl 26 _ rfl _ rfl _ _ _ _ (Wd.Blk.new w 26 (rcA b c d p q)) Tryd.underlying26 rfl (by kernel_rfl) ?_)
    have r_1 := (Wd.Blk.new w 26 (rcA b c d p q))
    have inv_1 := (i0.alloc (.cells (rcA b c d p q) 26))
    refine (hch _ inv_1.1).mono ?_; rintro e w_1 ⟨rfl, hb_1⟩
    have rc_1 := r_1.below hb_1 r_1.lt
    have invc_1 := inv_1.call hb_1
    clear r_1 inv_1 hb_1
    go_wp2_with fail
    go_ret3
    exact ⟨rfl, invc_1.2⟩
  · rw [show rcE b c d p q = 0 by unfold rcE; rw [if_pos hr]] at hch
    by_cases hY : 1601 ≤ Y ∧ Y ≤ 9999
    · have he : trE b c d p q Y = 0 := by unfold trE; rw [if_neg (by rw [hr]; decide), if_neg (by simpa using hY)]
      have ha : trA b c d p q Y = secV q Y (offS b c) := by unfold trA; rw [if_pos he]
      have hb : trB b c d p q Y = secV p Y (offS b d) := by unfold trB; rw [if_pos he]
      rw [he, ha, hb]; clear he ha hb hr
      have hBq : Stp.Bd q.y q.m q.v q.d q.h q.i q.s q.u := B.q
      have hBp : Stp.Bd p.y p.m p.v p.d p.h p.i p.s p.u := B.p
      have ho1 := hob.1
      have ho2 := hob.2
      obtain ⟨h1, h2⟩ := hY
      clear hob B
      obtain ⟨s1, hq⟩ : ∃ z, secV q Y (offS b c) = z := ⟨_, rfl⟩
      obtain ⟨s2, hp⟩ : ∃ z, secV p Y (offS b d) = z := ⟨_, rfl⟩
      rw [hq, hp]
      have HQ := Lib.hid hq; have HP := Lib.hid hp
      clear hq hp
      generalize offS b c = o1 at *
      generalize offS b d = o2 at *
      go_enter Tryd.func131, Tryd.ntmps131
      go_wp2_with (first | refine wpList_row_g rfl 26 _ rfl _ rfl _ _ _ _ (Wd.Blk.new w 26 (rcA b c d p q)) Tryd.underlying26 rfl (by kernel_rfl) ?_)
      have r_1 := (Wd.Blk.new w 26 (rcA b c d p q))
      have inv_1 := (i0.alloc (.cells (rcA b c d p q) 26))
      refine (hch _ inv_1.1).mono ?_; rintro e w_1 ⟨rfl, hb_1⟩
      have rc_1 := r_1.below hb_1 r_1.lt
      have invc_1 := inv_1.call hb_1
      clear r_1 inv_1 hb_1
      go_wp2_with (first | refine wpList_row_g rfl 26 _ rfl _ rfl _ _ _ _ rc_1 Tryd.underlying26 rfl (by kernel_rfl) ?_)
      have r_2 := rc_1
      have inv_2 := invc_1
      refine (hof _).mono ?_; rintro e w_2 ⟨rfl, hb_2⟩
      have rc_2 := r_2.below hb_2 r_2.lt
      have invc_2 := inv_2.call hb_2
      clear r_2 inv_2 hb_2
      go_wp2_with fail
      have r_3 := rc_2
      have inv_3 := invc_2
      have xd : Blk w_2.drew _ _ _ := r_3
      have iv := inv_3.drew
      clear r_3 inv_3 hch hof
      have c3 := xd.cell 3; have c4 := xd.cell 4; have c5 := xd.cell 5; have c6 := xd.cell 6; have c7 := xd.cell 7; have c8 := xd.cell 8; have c9 := xd.cell 9; have c10 := xd.cell 10; have c11 := xd.cell 11; have c12 := xd.cell 12; have c13 := xd.cell 13; have c14 := xd.cell 14; have c15 := xd.cell 15; have c16 := xd.cell 16; have c17 := xd.cell 17; have c18 := xd.cell 18; simp at c3 c4 c5 c6 c7 c8 c9 c10 c11 c12 c13 c14 c15 c16 c17 c18
      go_region_with ((go_at_call 145; refine (rturn8 _ _ _ _ _ _ _ _ Y _ _ iv.1 (by assumption) (by assumption)).mono ?_; rintro e wn ⟨rfl, hbn⟩; replace xd := xd.below hbn xd.lt; replace iv := iv.call hbn; clear c3 c4 c5 c6 c7 c8 c9 c10 c11 c12 c13 c14 c15 c16 c17 c18; have c3 := xd.cell 3; have c4 := xd.cell 4; have c5 := xd.cell 5; have c6 := xd.cell 6; have c7 := xd.cell 7; have c8 := xd.cell 8; have c9 := xd.cell 9; have c10 := xd.cell 10; have c11 := xd.cell 11; have c12 := xd.cell 12; have c13 := xd.cell 13; have c14 := xd.cell 14; have c15 := xd.cell 15; have c16 := xd.cell 16; have c17 := xd.cell 17; have c18 := xd.cell 18; simp at c3 c4 c5 c6 c7 c8 c9 c10 c11 c12 c13 c14 c15 c16 c17 c18; clear hbn))
      all_goals
        rw [show secV ⟨q.y, q.m, q.v, q.d, q.h, q.i, q.s, q.u⟩ Y o1 = s1 from HQ.out, show secV ⟨p.y, p.m, p.v, p.d, p.h, p.i, p.s, p.u⟩ Y o2 = s2 from HP.out]
        clear HQ HP
        go_wp2_with fail
        go_ret3
        exact ⟨rfl, iv.2⟩
    · have hn : trE b c d p q Y = 1 := by unfold trE; rw [if_neg (by rw [hr]; decide), if_pos hY]
      have ha : trA b c d p q Y = 0 := by unfold trA; rw [hn]; rfl
      have hb : trB b c d p q Y = 0 := by unfold trB; rw [hn]; rfl
      rw [hn, ha, hb]; clear hn ha hb hr hof hob
      have hY2 : Y < 1601 ∨ (1601 ≤ Y ∧ 9999 < Y) := by omega
      clear hY
      rcases hY2 with h1 | ⟨h1, h2⟩
      all_goals
        go_enter Tryd.func131, Tryd.ntmps131
        go_wp2_with (first | refine wpList_row_g rfl 26 _ rfl _ rfl _ _ _ _ (Wd.Blk.new w 26 (rcA b c d p q)) Tryd.underlying26 rfl (by kernel_rfl) ?_)
        have r_1 := (Wd.Blk.new w 26 (rcA b c d p q))
        have inv_1 := (i0.alloc (.cells (rcA b c d p q) 26))
        refine (hch _ inv_1.1).mono ?_; rintro e w_1 ⟨rfl, hb_1⟩
        have rc_1 := r_1.below hb_1 r_1.lt
        have invc_1 := inv_1.call hb_1
        clear r_1 inv_1 hb_1
        go_wp2_with fail
        go_ret3
        exact ⟨rfl, invc_1.2⟩
set_option maxRecDepth 100000 in
set_option maxHeartbeats 8000000 in
theorem rAt_any (b c d : Int) (p q : St) (Y t : Int) (w : World) (hT : Tab w) (B : RBd b c d p q) :
    Calls Tryd.prog 100 #[rcV b c d p q, .int .i64 Y, .int .i64 t] w fun e w' => e = .returned (.tuple #[stateV (atO b c d p q Y t) (atB b c d p q Y t), .int .i64 (trE b c d p q Y)]) ∧ Below w.heap.size w w' := by
  have i0 := Civ.Inv.start hT
  have ht := fun w hT => rTurns_any b c d p q Y w hT B
  have hof := fun w => roffs_any b c d p q w B
  have HB := Lib.hid (fun (he : trE b c d p q Y = 0) => (show atB b c d p q Y t = sumB (trA b c d p q Y) (trB b c d p q Y) t by unfold atB; rw [if_pos he]))
  have HO := Lib.hid (fun (he : trE b c d p q Y = 0) => (show atO b c d p q Y t = if sumB (trA b c d p q Y) (trB b c d p q Y) t = true then offS b d else offS b c by unfold atO stO; rw [if_pos he]))
  by_cases he : trE b c d p q Y = 0
  · rw [HB.out he, HO.out he]
    simp only [he] at ht ⊢
    clear HB HO he
    generalize trA b c d p q Y = s1 at *
    generalize trB b c d p q Y = s2 at *
    generalize offS b c = o1 at *
    generalize offS b d = o2 at *
    have hc : (s1 < s2 ∧ s1 ≤ t ∧ t < s2) ∨ (s1 < s2 ∧ s1 ≤ t ∧ s2 ≤ t) ∨ (s1 < s2 ∧ t < s1) ∨ (s2 < s1 ∧ t < s2) ∨ (s2 < s1 ∧ s2 ≤ t ∧ s1 ≤ t) ∨ (s2 < s1 ∧ s2 ≤ t ∧ t < s1) ∨ s1 = s2 := by omega
    rcases hc with ⟨k1, k2, k3⟩ | ⟨k1, k2, k3⟩ | ⟨k1, k2⟩ | ⟨k1, k2⟩ | ⟨k1, k2, k3⟩ | ⟨k1, k2, k3⟩ | k1
    · rw [show sumB s1 s2 t = true by unfold sumB; by_cases z1 : s1 < s2 <;> by_cases z2 : s2 < s1 <;> by_cases z3 : s1 ≤ t <;> by_cases z4 : t < s2 <;> simp [z1, z2, z3, z4] <;> omega]
      rw [if_pos rfl]
      go_enter Tryd.func100, Tryd.ntmps100
      go_wp2_with (first | refine wpList_row_g rfl 26 _ rfl _ rfl _ _ _ _ ((Wd.Blk.new w 26 (rcA b c d p q)).alloc (.cells (stA0 0 false) 43)) Tryd.underlying26 rfl (by kernel_rfl) ?_)
      have r_1 := ((Wd.Blk.new w 26 (rcA b c d p q)).alloc (.cells (stA0 0 false) 43))
      have z_1 := (blk_at (w.alloc (.cells (rcA b c d p q) 26)) 43 (stA0 0 false) (sz1 _ _ rfl))
      have inv_1 := ((i0.alloc (.cells (rcA b c d p q) 26)).alloc (.cells (stA0 0 false) 43))
      refine (ht _ inv_1.1).mono ?_; rintro e w_1 ⟨rfl, hb_1⟩
      have rc_1 := r_1.below hb_1 r_1.lt
      have zc_1 := z_1.below hb_1 z_1.lt
      have invc_1 := inv_1.call hb_1
      clear r_1 z_1 inv_1 hb_1
      go_wp2_with (first | refine wpList_row_g rfl 26 _ rfl _ rfl _ _ _ _ rc_1 Tryd.underlying26 rfl (by kernel_rfl) ?_)
      have r_2 := rc_1
      have z_2 := zc_1
      have inv_2 := invc_1
      refine (hof _).mono ?_; rintro e w_2 ⟨rfl, hb_2⟩
      have rc_2 := r_2.below hb_2 r_2.lt
      have zc_2 := z_2.below hb_2 z_2.lt
      have invc_2 := inv_2.call hb_2
      clear r_2 z_2 inv_2 hb_2
      skip
      go_wp2_with (first | refine wpList_store_g rfl 43 _ _ rfl rfl _ 0 (stA0 o2 true) (stA0 o2 true) rfl rfl _ _ zc_2 (by show 0 + 3 ≤ 3; decide) (by kernel_rfl) (by kernel_rfl) (by kernel_rfl) ?_)
      exact bodyPost_ret (results_se rfl _ _ _ _ _ _ rfl rfl (Blk.row zc_2 _) rfl) rfl ⟨rfl, below_row invc_2.2 (Nat.le_add_right _ 1) _⟩
    · rw [show sumB s1 s2 t = false by unfold sumB; by_cases z1 : s1 < s2 <;> by_cases z2 : s2 < s1 <;> by_cases z3 : s1 ≤ t <;> by_cases z4 : t < s2 <;> simp [z1, z2, z3, z4] <;> omega]
      rw [if_neg (by decide)]
      go_enter Tryd.func100, Tryd.ntmps100
      go_wp2_with (first | refine wpList_row_g rfl 26 _ rfl _ rfl _ _ _ _ ((Wd.Blk.new w 26 (rcA b c d p q)).alloc (.cells (stA0 0 false) 43)) Tryd.underlying26 rfl (by kernel_rfl) ?_)
      have r_1 := ((Wd.Blk.new w 26 (rcA b c d p q)).alloc (.cells (stA0 0 false) 43))
      have z_1 := (blk_at (w.alloc (.cells (rcA b c d p q) 26)) 43 (stA0 0 false) (sz1 _ _ rfl))
      have inv_1 := ((i0.alloc (.cells (rcA b c d p q) 26)).alloc (.cells (stA0 0 false) 43))
      refine (ht _ inv_1.1).mono ?_; rintro e w_1 ⟨rfl, hb_1⟩
      have rc_1 := r_1.below hb_1 r_1.lt
      have zc_1 := z_1.below hb_1 z_1.lt
      have invc_1 := inv_1.call hb_1
      clear r_1 z_1 inv_1 hb_1
      go_wp2_with (first | refine wpList_row_g rfl 26 _ rfl _ rfl _ _ _ _ rc_1 Tryd.underlying26 rfl (by kernel_rfl) ?_)
      have r_2 := rc_1
      have z_2 := zc_1
      have inv_2 := invc_1
      refine (hof _).mono ?_; rintro e w_2 ⟨rfl, hb_2⟩
      have rc_2 := r_2.below hb_2 r_2.lt
      have zc_2 := z_2.below hb_2 z_2.lt
      have invc_2 := inv_2.call hb_2
      clear r_2 z_2 inv_2 hb_2
      skip
      go_wp2_with (first | refine wpList_store_g rfl 43 _ _ rfl rfl _ 0 (stA0 o1 false) (stA0 o1 false) rfl rfl _ _ zc_2 (by show 0 + 3 ≤ 3; decide) (by kernel_rfl) (by kernel_rfl) (by kernel_rfl) ?_)
      exact bodyPost_ret (results_se rfl _ _ _ _ _ _ rfl rfl (Blk.row zc_2 _) rfl) rfl ⟨rfl, below_row invc_2.2 (Nat.le_add_right _ 1) _⟩
    · rw [show sumB s1 s2 t = false by unfold sumB; by_cases z1 : s1 < s2 <;> by_cases z2 : s2 < s1 <;> by_cases z3 : s1 ≤ t <;> by_cases z4 : t < s2 <;> simp [z1, z2, z3, z4] <;> omega]
      rw [if_neg (by decide)]
      go_enter Tryd.func100, Tryd.ntmps100
      go_wp2_with (first | refine wpList_row_g rfl 26 _ rfl _ rfl _ _ _ _ ((Wd.Blk.new w 26 (rcA b c d p q)).alloc (.cells (stA0 0 false) 43)) Tryd.underlying26 rfl (by kernel_rfl) ?_)
      have r_1 := ((Wd.Blk.new w 26 (rcA b c d p q)).alloc (.cells (stA0 0 false) 43))
      have z_1 := (blk_at (w.alloc (.cells (rcA b c d p q) 26)) 43 (stA0 0 false) (sz1 _ _ rfl))
      have inv_1 := ((i0.alloc (.cells (rcA b c d p q) 26)).alloc (.cells (stA0 0 false) 43))
      refine (ht _ inv_1.1).mono ?_; rintro e w_1 ⟨rfl, hb_1⟩
      have rc_1 := r_1.below hb_1 r_1.lt
      have zc_1 := z_1.below hb_1 z_1.lt
      have invc_1 := inv_1.call hb_1
      clear r_1 z_1 inv_1 hb_1
      go_wp2_with (first | refine wpList_row_g rfl 26 _ rfl _ rfl _ _ _ _ rc_1 Tryd.underlying26 rfl (by kernel_rfl) ?_)
      have r_2 := rc_1
      have z_2 := zc_1
      have inv_2 := invc_1
      refine (hof _).mono ?_; rintro e w_2 ⟨rfl, hb_2⟩
      have rc_2 := r_2.below hb_2 r_2.lt
      have zc_2 := z_2.below hb_2 z_2.lt
      have invc_2 := inv_2.call hb_2
      clear r_2 z_2 inv_2 hb_2
      skip
      go_wp2_with (first | refine wpList_store_g rfl 43 _ _ rfl rfl _ 0 (stA0 o1 false) (stA0 o1 false) rfl rfl _ _ zc_2 (by show 0 + 3 ≤ 3; decide) (by kernel_rfl) (by kernel_rfl) (by kernel_rfl) ?_)
      exact bodyPost_ret (results_se rfl _ _ _ _ _ _ rfl rfl (Blk.row zc_2 _) rfl) rfl ⟨rfl, below_row invc_2.2 (Nat.le_add_right _ 1) _⟩
    · rw [show sumB s1 s2 t = true by unfold sumB; by_cases z1 : s1 < s2 <;> by_cases z2 : s2 < s1 <;> by_cases z3 : s1 ≤ t <;> by_cases z4 : t < s2 <;> simp [z1, z2, z3, z4] <;> omega]
      rw [if_pos rfl]
      go_enter Tryd.func100, Tryd.ntmps100
      go_wp2_with (first | refine wpList_row_g rfl 26 _ rfl _ rfl _ _ _ _ ((Wd.Blk.new w 26 (rcA b c d p q)).alloc (.cells (stA0 0 false) 43)) Tryd.underlying26 rfl (by kernel_rfl) ?_)
      have r_1 := ((Wd.Blk.new w 26 (rcA b c d p q)).alloc (.cells (stA0 0 false) 43))
      have z_1 := (blk_at (w.alloc (.cells (rcA b c d p q) 26)) 43 (stA0 0 false) (sz1 _ _ rfl))
      have inv_1 := ((i0.alloc (.cells (rcA b c d p q) 26)).alloc (.cells (stA0 0 false) 43))
      refine (ht _ inv_1.1).mono ?_; rintro e w_1 ⟨rfl, hb_1⟩
      have rc_1 := r_1.below hb_1 r_1.lt
      have zc_1 := z_1.below hb_1 z_1.lt
      have invc_1 := inv_1.call hb_1
      clear r_1 z_1 inv_1 hb_1
      go_wp2_with (first | refine wpList_row_g rfl 26 _ rfl _ rfl _ _ _ _ rc_1 Tryd.underlying26 rfl (by kernel_rfl) ?_)
      have r_2 := rc_1
      have z_2 := zc_1
      have inv_2 := invc_1
      refine (hof _).mono ?_; rintro e w_2 ⟨rfl, hb_2⟩
      have rc_2 := r_2.below hb_2 r_2.lt
      have zc_2 := z_2.below hb_2 z_2.lt
      have invc_2 := inv_2.call hb_2
      clear r_2 z_2 inv_2 hb_2
      skip
      go_wp2_with (first | refine wpList_store_g rfl 43 _ _ rfl rfl _ 0 (stA0 o2 true) (stA0 o2 true) rfl rfl _ _ zc_2 (by show 0 + 3 ≤ 3; decide) (by kernel_rfl) (by kernel_rfl) (by kernel_rfl) ?_)
      exact bodyPost_ret (results_se rfl _ _ _ _ _ _ rfl rfl (Blk.row zc_2 _) rfl) rfl ⟨rfl, below_row invc_2.2 (Nat.le_add_right _ 1) _⟩
    · rw [show sumB s1 s2 t = true by unfold sumB; by_cases z1 : s1 < s2 <;> by_cases z2 : s2 < s1 <;> by_cases z3 : s1 ≤ t <;> by_cases z4 : t < s2 <;> simp [z1, z2, z3, z4] <;> omega]
      rw [if_pos rfl]
      go_enter Tryd.func100, Tryd.ntmps100
      go_wp2_with (first | refine wpList_row_g rfl 26 _ rfl _ rfl _ _ _ _ ((Wd.Blk.new w 26 (rcA b c d p q)).alloc (.cells (stA0 0 false) 43)) Tryd.underlying26 rfl (by kernel_rfl) ?_)
      have r_1 := ((Wd.Blk.new w 26 (rcA b c d p q)).alloc (.cells (stA0 0 false) 43))
      have z_1 := (blk_at (w.alloc (.cells (rcA b c d p q) 26)) 43 (stA0 0 false) (sz1 _ _ rfl))
      have inv_1 := ((i0.alloc (.cells (rcA b c d p q) 26)).alloc (.cells (stA0 0 false) 43))
      refine (ht _ inv_1.1).mono ?_; rintro e w_1 ⟨rfl, hb_1⟩
      have rc_1 := r_1.below hb_1 r_1.lt
      have zc_1 := z_1.below hb_1 z_1.lt
      have invc_1 := inv_1.call hb_1
      clear r_1 z_1 inv_1 hb_1
      go_wp2_with (first | refine wpList_row_g rfl 26 _ rfl _ rfl _ _ _ _ rc_1 Tryd.underlying26 rfl (by kernel_rfl) ?_)
      have r_2 := rc_1
      have z_2 := zc_1
      have inv_2 := invc_1
      refine (hof _).mono ?_; rintro e w_2 ⟨rfl, hb_2⟩
      have rc_2 := r_2.below hb_2 r_2.lt
      have zc_2 := z_2.below hb_2 z_2.lt
      have invc_2 := inv_2.call hb_2
      clear r_2 z_2 inv_2 hb_2
      skip
      go_wp2_with (first | refine wpList_store_g rfl 43 _ _ rfl rfl _ 0 (stA0 o2 true) (stA0 o2 true) rfl rfl _ _ zc_2 (by show 0 + 3 ≤ 3; decide) (by kernel_rfl) (by kernel_rfl) (by kernel_rfl) ?_)
      exact bodyPost_ret (results_se rfl _ _ _ _ _ _ rfl rfl (Blk.row zc_2 _) rfl) rfl ⟨rfl, below_row invc_2.2 (Nat.le_add_right _ 1) _⟩
    · rw [show sumB s1 s2 t = false by unfold sumB; by_cases z1 : s1 < s2 <;> by_cases z2 : s2 < s1 <;> by_cases z3 : s1 ≤ t <;> by_cases z4 : t < s2 <;> simp [z1, z2, z3, z4] <;> omega]
      rw [if_neg (by decide)]
      go_enter Tryd.func100, Tryd.ntmps100
      go_wp2_with (first | refine wpList_row_g rfl 26 _ rfl _ rfl _ _ _ _ ((Wd.Blk.new w 26 (rcA b c d p q)).alloc (.cells (stA0 0 false) 43)) Tryd.underlying26 rfl (by kernel_rfl) ?_)
      have r_1 := ((Wd.Blk.new w 26 (rcA b c d p q)).alloc (.cells (stA0 0 false) 43))
      have z_1 := (blk_at (w.alloc (.cells (rcA b c d p q) 26)) 43 (stA0 0 false) (sz1 _ _ rfl))
      have inv_1 := ((i0.alloc (.cells (rcA b c d p q) 26)).alloc (.cells (stA0 0 false) 43))
      refine (ht _ inv_1.1).mono ?_; rintro e w_1 ⟨rfl, hb_1⟩
      have rc_1 := r_1.below hb_1 r_1.lt
      have zc_1 := z_1.below hb_1 z_1.lt
      have invc_1 := inv_1.call hb_1
      clear r_1 z_1 inv_1 hb_1
      go_wp2_with (first | refine wpList_row_g rfl 26 _ rfl _ rfl _ _ _ _ rc_1 Tryd.underlying26 rfl (by kernel_rfl) ?_)
      have r_2 := rc_1
      have z_2 := zc_1
      have inv_2 := invc_1
      refine (hof _).mono ?_; rintro e w_2 ⟨rfl, hb_2⟩
      have rc_2 := r_2.below hb_2 r_2.lt
      have zc_2 := z_2.below hb_2 z_2.lt
      have invc_2 := inv_2.call hb_2
      clear r_2 z_2 inv_2 hb_2
      skip
      go_wp2_with (first | refine wpList_store_g rfl 43 _ _ rfl rfl _ 0 (stA0 o1 false) (stA0 o1 false) rfl rfl _ _ zc_2 (by show 0 + 3 ≤ 3; decide) (by kernel_rfl) (by kernel_rfl) (by kernel_rfl) ?_)
      exact bodyPost_ret (results_se rfl _ _ _ _ _ _ rfl rfl (Blk.row zc_2 _) rfl) rfl ⟨rfl, below_row invc_2.2 (Nat.le_add_right _ 1) _⟩
    · subst k1; rw [show sumB s1 s1 t = false by unfold sumB; simp]
      rw [if_neg (by decide)]
      have k2 : ¬ s1 < s1 := by omega
      go_enter Tryd.func100, Tryd.ntmps100
      go_wp2_with (first | refine wpList_row_g rfl 26 _ rfl _ rfl _ _ _ _ ((Wd.Blk.new w 26 (rcA b c d p q)).alloc (.cells (stA0 0 false) 43)) Tryd.underlying26 rfl (by kernel_rfl) ?_)
      have r_1 := ((Wd.Blk.new w 26 (rcA b c d p q)).alloc (.cells (stA0 0 false) 43))
      have z_1 := (blk_at (w.alloc (.cells (rcA b c d p q) 26)) 43 (stA0 0 false) (sz1 _ _ rfl))
      have inv_1 := ((i0.alloc (.cells (rcA b c d p q) 26)).alloc (.cells (stA0 0 false) 43))
      refine (ht _ inv_1.1).mono ?_; rintro e w_1 ⟨rfl, hb_1⟩
      have rc_1 := r_1.below hb_1 r_1.lt
      have zc_1 := z_1.below hb_1 z_1.lt
      have invc_1 := inv_1.call hb_1
      clear r_1 z_1 inv_1 hb_1
      go_wp2_with (first | refine wpList_row_g rfl 26 _ rfl _ rfl _ _ _ _ rc_1 Tryd.underlying26 rfl (by kernel_rfl) ?_)
      have r_2 := rc_1
      have z_2 := zc_1
      have inv_2 := invc_1
      refine (hof _).mono ?_; rintro e w_2 ⟨rfl, hb_2⟩
      have rc_2 := r_2.below hb_2 r_2.lt
      have zc_2 := z_2.below hb_2 z_2.lt
      have invc_2 := inv_2.call hb_2
      clear r_2 z_2 inv_2 hb_2
      skip
      go_wp2_with (first | refine wpList_store_g rfl 43 _ _ rfl rfl _ 0 (stA0 o1 false) (stA0 o1 false) rfl rfl _ _ zc_2 (by show 0 + 3 ≤ 3; decide) (by kernel_rfl) (by kernel_rfl) (by kernel_rfl) ?_)
      exact bodyPost_ret (results_se rfl _ _ _ _ _ _ rfl rfl (Blk.row zc_2 _) rfl) rfl ⟨rfl, below_row invc_2.2 (Nat.le_add_right _ 1) _⟩
  · have ho : atO b c d p q Y t = 0 := by unfold atO; rw [if_neg he]
    have hb : atB b c d p q Y t = false := by unfold atB; rw [if_neg he]
    have heb : (trE b c d p q Y != 0) = true := by simp [he]
    rw [ho, hb]; clear ho hb HB HO he hof
    generalize trA b c d p q Y = s1 at *
    generalize trB b c d p q Y = s2 at *
    generalize trE b c d p q Y = ee at *
    go_enter Tryd.func100, Tryd.ntmps100
    go_wp2_with (first | refine wpList_row_g rfl 26 _ rfl _ rfl _ _ _ _ ((Wd.Blk.new w 26 (rcA b c d p q)).alloc (.cells (stA0 0 false) 43)) Tryd.underlying26 rfl (by kernel_rfl) ?_)
    have r_1 := ((Wd.Blk.new w 26 (rcA b c d p q)).alloc (.cells (stA0 0 false) 43))
    have z_1 := (blk_at (w.alloc (.cells (rcA b c d p q) 26)) 43 (stA0 0 false) (sz1 _ _ rfl))
    have inv_1 := ((i0.alloc (.cells (rcA b c d p q) 26)).alloc (.cells (stA0 0 false) 43))
    refine (ht _ inv_1.1).mono ?_; rintro e w_1 ⟨rfl, hb_1⟩
    have rc_1 := r_1.below hb_1 r_1.lt
    have zc_1 := z_1.below hb_1 z_1.lt
    have invc_1 := inv_1.call hb_1
    clear r_1 z_1 inv_1 hb_1
    go_wp2_with (first | refine wpList_store_g rfl 43 _ _ rfl rfl _ 0 (stA0 0 false) (stA0 0 false) rfl rfl _ _ zc_1 (by show 0 + 3 ≤ 3; decide) (by kernel_rfl) (by kernel_rfl) (by kernel_rfl) ?_)
    exact bodyPost_ret (results_se rfl _ _ _ _ _ _ rfl rfl (Blk.row zc_1 _) rfl) rfl ⟨rfl, below_row invc_1.2 (Nat.le_add_right _ 1) _⟩
end Go.Proofs.YtefcjccapekjdaaDoor.Rf
