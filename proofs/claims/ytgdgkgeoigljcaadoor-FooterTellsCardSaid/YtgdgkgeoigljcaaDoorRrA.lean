/-
  THE REFERENCE, walked: a stamp and a record checked.
-/
import Derived.Test.YtgdgkgeoigljcaaDoorRfA
import Derived.Test.YtgdgkgeoigljcaaDoorQe
import Derived.BigQuiet
namespace Go.Proofs.YtgdgkgeoigljcaaDoor.Rf
open Go.ChangeShapes Go.WideShapes Go.ChangeAt Go.RowKit
open Go.Proofs.YtgdgkgeoigljcaaDoor
open Go.Proofs.YtgdgkgeoigljcaaDoor.Wd
open Go.Proofs.YtgdgkgeoigljcaaDoor.Rec
open Go.Proofs.YtgdgkgeoigljcaaDoor.Stp (stV Bd chkS zeroS okS numS dayS num_iff day_iff zero_iff chk_of eql_zero chk_zero)
open Go.Proofs.YtgdgkgeoigljcaaDoor.Civ (Tab Inv ret_int)
set_option linter.unusedVariables false
set_option maxRecDepth 20000 in
set_option maxHeartbeats 1600000 in
theorem roffs_any (b c d : Int) (p q : St) (w : World) (B : RBd b c d p q) :
    Calls Tryd.prog 22 #[rcV b c d p q] w fun e w' => e = .returned (.tuple #[.int .i64 (offS b c), .int .i64 (offS b d)]) ∧ Below w.heap.size w w' := by
  obtain ⟨⟨b1, b2⟩, ⟨c1, c2⟩, ⟨d1, d2⟩, _, _⟩ := B
  unfold offS
  go_enter Tryd.func22, Tryd.ntmps22
  go_wp2
  go_quiet (fail)
  go_wp2
  go_ret2
  exact ⟨rfl, bdrewN ((Below.refl _ _).alloc (Nat.le_refl _) _) _⟩
theorem rnear_any (z : Int) (w : World) :
    Calls Tryd.prog 50 #[.int .i64 z] w fun e w' => e = .returned (.bool (near z)) ∧ w' = w := by
  by_cases h1 : -86400 ≤ z
  · by_cases h2 : z ≤ 86400
    · have hv : near z = true := by unfold near; simp [h1, h2]
      rw [hv]; clear hv
      go_enter Tryd.func50, Tryd.ntmps50
      go_wp2
      go_ret
      exact ⟨rfl, rfl⟩
    · have hv : near z = false := by unfold near; simp [h2]
      rw [hv]; clear hv
      go_enter Tryd.func50, Tryd.ntmps50
      go_wp2
      go_ret
      exact ⟨rfl, rfl⟩
  · have hv : near z = false := by unfold near; simp [h1]
    rw [hv]; clear hv
    go_enter Tryd.func50, Tryd.ntmps50
    go_wp2
    go_ret
    exact ⟨rfl, rfl⟩
theorem rchk8 {x : St} {w : World} (B : x.Bd) : Calls Tryd.prog 51 #[.agg (sA x)] w fun e w' => e = .returned (.int .i64 x.chk) ∧ Below w.heap.size w w' :=
  rchkS_any _ _ _ _ _ _ _ _ _ B
theorem rc_all {b c d : Int} {p q : St} : rcOk b c d p q = ((p.zero == q.zero) && (p.chk == 0 && (q.chk == 0 && (near (offS b c) && near (offS b d))))) := by
  unfold rcOk; simp
set_option maxRecDepth 100000 in
set_option maxHeartbeats 8000000 in
theorem rrc_any (b c d : Int) (p q : St) (w : World) (hT : Tab w) (B : RBd b c d p q) :
    Calls Tryd.prog 21 #[rcV b c d p q] w fun e w' => e = .returned (.int .i64 (rcE b c d p q)) ∧ Below w.heap.size w w' := by
  have i0 := Civ.Inv.start hT
  have zp := eq_st p
  have zq := eq_st q
  have hof := fun w => roffs_any b c d p q w B
  have HA := Lib.hid (rc_all (b := b) (c := c) (d := d) (p := p) (q := q))
  have hn1 := fun w => rnear_any (offS b c) w
  have hn2 := fun w => rnear_any (offS b d) w
  have hcp := fun w => rchk8 (w := w) B.p
  have hcq := fun w => rchk8 (w := w) B.q
  generalize offS b c = o1 at *
  generalize offS b d = o2 at *
  cases h1 : near o1
  · have HR := Lib.hid (show rcOk b c d p q = false by rw [HA.out, h1]; simp)
    rw [h1] at hn1
    clear h1
    go_enter Tryd.func21, Tryd.ntmps21
    have r_1 := (Wd.Blk.new w 26 (rcA b c d p q))
    have inv_1 := (i0.alloc (.cells (rcA b c d p q) 26))
    go_wp2_with (first | refine wpList_row_g rfl 26 _ rfl _ rfl _ _ _ _ r_1 Tryd.underlying26 rfl (by kernel_rfl) ?_)
    have r_2 := r_1
    have inv_2 := inv_1
    refine (hof _).mono ?_; rintro e w_2 ⟨rfl, hb_2⟩
    have rc_2 := r_2.below hb_2 r_2.lt
    have invc_2 := inv_2.call hb_2
    clear r_2 inv_2 hb_2
    go_wp2_with fail
    refine (hn1 _).mono ?_; rintro e wq ⟨rfl, rfl⟩
    go_wp2_with fail
    go_ret
    exact ⟨rc_bad HR.out, invc_2.2⟩
  · rw [h1] at hn1
    cases h2 : near o2
    · have HR := Lib.hid (show rcOk b c d p q = false by rw [HA.out, h2]; simp)
      rw [h2] at hn2
      clear h1 h2
      go_enter Tryd.func21, Tryd.ntmps21
      have r_1 := (Wd.Blk.new w 26 (rcA b c d p q))
      have inv_1 := (i0.alloc (.cells (rcA b c d p q) 26))
      go_wp2_with (first | refine wpList_row_g rfl 26 _ rfl _ rfl _ _ _ _ r_1 Tryd.underlying26 rfl (by kernel_rfl) ?_)
      have r_2 := r_1
      have inv_2 := inv_1
      refine (hof _).mono ?_; rintro e w_2 ⟨rfl, hb_2⟩
      have rc_2 := r_2.below hb_2 r_2.lt
      have invc_2 := inv_2.call hb_2
      clear r_2 inv_2 hb_2
      go_wp2_with fail
      refine (hn1 _).mono ?_; rintro e wq ⟨rfl, rfl⟩
      go_wp2_with fail
      refine (hn2 _).mono ?_; rintro e wq ⟨rfl, rfl⟩
      go_wp2_with fail
      go_ret
      exact ⟨rc_bad HR.out, invc_2.2⟩
    · rw [h2] at hn2
      by_cases h3 : p.chk = 0
      · rw [h3] at hcp
        by_cases h4 : q.chk = 0
        · rw [h4] at hcq
          cases h5 : (p.zero == q.zero)
          · have HR := Lib.hid (show rcOk b c d p q = false by rw [HA.out, h5]; rfl)
            clear h1 h2 h3 h4
            go_enter Tryd.func21, Tryd.ntmps21
            have r_1 := (Wd.Blk.new w 26 (rcA b c d p q))
            have inv_1 := (i0.alloc (.cells (rcA b c d p q) 26))
            go_wp2_with (first | refine wpList_row_g rfl 26 _ rfl _ rfl _ _ _ _ r_1 Tryd.underlying26 rfl (by kernel_rfl) ?_)
            have r_2 := r_1
            have inv_2 := inv_1
            refine (hof _).mono ?_; rintro e w_2 ⟨rfl, hb_2⟩
            have rc_2 := r_2.below hb_2 r_2.lt
            have invc_2 := inv_2.call hb_2
            clear r_2 inv_2 hb_2
            go_wp2_with fail
            refine (hn1 _).mono ?_; rintro e wq ⟨rfl, rfl⟩
            go_wp2_with fail
            refine (hn2 _).mono ?_; rintro e wq ⟨rfl, rfl⟩
            go_wp2_with (first | refine wpList_seg_g rfl 24 _ rfl _ 3 (sA p) rfl _ _ _ _ rc_2 Tryd.underlying24 rfl (by kernel_rfl) (by kernel_rfl) ?_)
            have r_3 := rc_2
            have inv_3 := invc_2
            refine (hcp _).mono ?_; rintro e w_3 ⟨rfl, hb_3⟩
            have rc_3 := r_3.below hb_3 r_3.lt
            have invc_3 := inv_3.call hb_3
            clear r_3 inv_3 hb_3
            go_wp2_with (first | refine wpList_seg_g rfl 24 _ rfl _ 11 (sA q) rfl _ _ _ _ rc_3 Tryd.underlying24 rfl (by kernel_rfl) (by kernel_rfl) ?_)
            have r_4 := rc_3
            have inv_4 := invc_3
            refine (hcq _).mono ?_; rintro e w_4 ⟨rfl, hb_4⟩
            have rc_4 := r_4.below hb_4 r_4.lt
            have invc_4 := inv_4.call hb_4
            clear r_4 inv_4 hb_4
            have c0 := rc_4.cell 0
            have c1 := rc_4.cell 1
            have c2 := rc_4.cell 2
            have c3 := rc_4.cell 3
            have c4 := rc_4.cell 4
            have c5 := rc_4.cell 5
            have c6 := rc_4.cell 6
            have c7 := rc_4.cell 7
            have c8 := rc_4.cell 8
            have c9 := rc_4.cell 9
            have c10 := rc_4.cell 10
            have c11 := rc_4.cell 11
            have c12 := rc_4.cell 12
            have c13 := rc_4.cell 13
            have c14 := rc_4.cell 14
            have c15 := rc_4.cell 15
            have c16 := rc_4.cell 16
            have c17 := rc_4.cell 17
            have c18 := rc_4.cell 18
            simp at c0 c1 c2 c3 c4 c5 c6 c7 c8 c9 c10 c11 c12 c13 c14 c15 c16 c17 c18
            go_upto_region 4 with fail
            go_quiet (fail)
            go_wp2_with fail
            go_ret
            exact ⟨rc_bad HR.out, bdrewN invc_4.2 _⟩
          · have HR := Lib.hid (show rcOk b c d p q = true by rw [HA.out, h1, h2, h3, h4, h5]; rfl)
            clear h1 h2 h3 h4
            go_enter Tryd.func21, Tryd.ntmps21
            have r_1 := (Wd.Blk.new w 26 (rcA b c d p q))
            have inv_1 := (i0.alloc (.cells (rcA b c d p q) 26))
            go_wp2_with (first | refine wpList_row_g rfl 26 _ rfl _ rfl _ _ _ _ r_1 Tryd.underlying26 rfl (by kernel_rfl) ?_)
            have r_2 := r_1
            have inv_2 := inv_1
            refine (hof _).mono ?_; rintro e w_2 ⟨rfl, hb_2⟩
            have rc_2 := r_2.below hb_2 r_2.lt
            have invc_2 := inv_2.call hb_2
            clear r_2 inv_2 hb_2
            go_wp2_with fail
            refine (hn1 _).mono ?_; rintro e wq ⟨rfl, rfl⟩
            go_wp2_with fail
            refine (hn2 _).mono ?_; rintro e wq ⟨rfl, rfl⟩
            go_wp2_with (first | refine wpList_seg_g rfl 24 _ rfl _ 3 (sA p) rfl _ _ _ _ rc_2 Tryd.underlying24 rfl (by kernel_rfl) (by kernel_rfl) ?_)
            have r_3 := rc_2
            have inv_3 := invc_2
            refine (hcp _).mono ?_; rintro e w_3 ⟨rfl, hb_3⟩
            have rc_3 := r_3.below hb_3 r_3.lt
            have invc_3 := inv_3.call hb_3
            clear r_3 inv_3 hb_3
            go_wp2_with (first | refine wpList_seg_g rfl 24 _ rfl _ 11 (sA q) rfl _ _ _ _ rc_3 Tryd.underlying24 rfl (by kernel_rfl) (by kernel_rfl) ?_)
            have r_4 := rc_3
            have inv_4 := invc_3
            refine (hcq _).mono ?_; rintro e w_4 ⟨rfl, hb_4⟩
            have rc_4 := r_4.below hb_4 r_4.lt
            have invc_4 := inv_4.call hb_4
            clear r_4 inv_4 hb_4
            have c0 := rc_4.cell 0
            have c1 := rc_4.cell 1
            have c2 := rc_4.cell 2
            have c3 := rc_4.cell 3
            have c4 := rc_4.cell 4
            have c5 := rc_4.cell 5
            have c6 := rc_4.cell 6
            have c7 := rc_4.cell 7
            have c8 := rc_4.cell 8
            have c9 := rc_4.cell 9
            have c10 := rc_4.cell 10
            have c11 := rc_4.cell 11
            have c12 := rc_4.cell 12
            have c13 := rc_4.cell 13
            have c14 := rc_4.cell 14
            have c15 := rc_4.cell 15
            have c16 := rc_4.cell 16
            have c17 := rc_4.cell 17
            have c18 := rc_4.cell 18
            simp at c0 c1 c2 c3 c4 c5 c6 c7 c8 c9 c10 c11 c12 c13 c14 c15 c16 c17 c18
            go_upto_region 4 with fail
            go_quiet (fail)
            go_wp2_with fail
            go_ret
            exact ⟨rc_good HR.out, bdrewN invc_4.2 _⟩
        · have HR := Lib.hid (show rcOk b c d p q = false by rw [HA.out]; simp [h4])
          have h4b : (q.chk != 0) = true := by simp [h4]
          clear h1 h2 h3 h4
          go_enter Tryd.func21, Tryd.ntmps21
          have r_1 := (Wd.Blk.new w 26 (rcA b c d p q))
          have inv_1 := (i0.alloc (.cells (rcA b c d p q) 26))
          go_wp2_with (first | refine wpList_row_g rfl 26 _ rfl _ rfl _ _ _ _ r_1 Tryd.underlying26 rfl (by kernel_rfl) ?_)
          have r_2 := r_1
          have inv_2 := inv_1
          refine (hof _).mono ?_; rintro e w_2 ⟨rfl, hb_2⟩
          have rc_2 := r_2.below hb_2 r_2.lt
          have invc_2 := inv_2.call hb_2
          clear r_2 inv_2 hb_2
          go_wp2_with fail
          refine (hn1 _).mono ?_; rintro e wq ⟨rfl, rfl⟩
          go_wp2_with fail
          refine (hn2 _).mono ?_; rintro e wq ⟨rfl, rfl⟩
          go_wp2_with (first | refine wpList_seg_g rfl 24 _ rfl _ 3 (sA p) rfl _ _ _ _ rc_2 Tryd.underlying24 rfl (by kernel_rfl) (by kernel_rfl) ?_)
          have r_3 := rc_2
          have inv_3 := invc_2
          refine (hcp _).mono ?_; rintro e w_3 ⟨rfl, hb_3⟩
          have rc_3 := r_3.below hb_3 r_3.lt
          have invc_3 := inv_3.call hb_3
          clear r_3 inv_3 hb_3
          go_wp2_with (first | refine wpList_seg_g rfl 24 _ rfl _ 11 (sA q) rfl _ _ _ _ rc_3 Tryd.underlying24 rfl (by kernel_rfl) (by kernel_rfl) ?_)
          have r_4 := rc_3
          have inv_4 := invc_3
          refine (hcq _).mono ?_; rintro e w_4 ⟨rfl, hb_4⟩
          have rc_4 := r_4.below hb_4 r_4.lt
          have invc_4 := inv_4.call hb_4
          clear r_4 inv_4 hb_4
          go_wp2_with fail
          go_ret
          exact ⟨rc_bad HR.out, invc_4.2⟩
      · have HR := Lib.hid (show rcOk b c d p q = false by rw [HA.out]; simp [h3])
        have h3b : (p.chk != 0) = true := by simp [h3]
        clear h1 h2 h3
        go_enter Tryd.func21, Tryd.ntmps21
        have r_1 := (Wd.Blk.new w 26 (rcA b c d p q))
        have inv_1 := (i0.alloc (.cells (rcA b c d p q) 26))
        go_wp2_with (first | refine wpList_row_g rfl 26 _ rfl _ rfl _ _ _ _ r_1 Tryd.underlying26 rfl (by kernel_rfl) ?_)
        have r_2 := r_1
        have inv_2 := inv_1
        refine (hof _).mono ?_; rintro e w_2 ⟨rfl, hb_2⟩
        have rc_2 := r_2.below hb_2 r_2.lt
        have invc_2 := inv_2.call hb_2
        clear r_2 inv_2 hb_2
        go_wp2_with fail
        refine (hn1 _).mono ?_; rintro e wq ⟨rfl, rfl⟩
        go_wp2_with fail
        refine (hn2 _).mono ?_; rintro e wq ⟨rfl, rfl⟩
        go_wp2_with (first | refine wpList_seg_g rfl 24 _ rfl _ 3 (sA p) rfl _ _ _ _ rc_2 Tryd.underlying24 rfl (by kernel_rfl) (by kernel_rfl) ?_)
        have r_3 := rc_2
        have inv_3 := invc_2
        refine (hcp _).mono ?_; rintro e w_3 ⟨rfl, hb_3⟩
        have rc_3 := r_3.below hb_3 r_3.lt
        have invc_3 := inv_3.call hb_3
        clear r_3 inv_3 hb_3
        go_wp2_with fail
        go_ret
        exact ⟨rc_bad HR.out, invc_3.2⟩
end Go.Proofs.YtgdgkgeoigljcaaDoor.Rf
