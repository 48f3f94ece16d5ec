/-
  THE REFERENCE, walked: a record checked; when its clocks turn; what holds.
-/
import Derived.Test.YtefcjccapekjdaaDoorRfL
namespace Go.Proofs.YtefcjccapekjdaaDoor.Rf
open Go.ChangeShapes Go.WideShapes Go.ChangeAt Go.RowKit
open Go.Proofs.YtefcjccapekjdaaDoor
open Go.Proofs.YtefcjccapekjdaaDoor.Wd
open Go.Proofs.YtefcjccapekjdaaDoor.Rec
open Go.Proofs.YtefcjccapekjdaaDoor.Yr (leS lcS secV lc_bd ceil_hi ceil_lo twoV sumB offS_bd stO stA0 stateV trE trA trB atO atB results_se)
open Go.Proofs.YtefcjccapekjdaaDoor.Civ (Tab Inv ret_int dateE dateV ret_two)
set_option linter.unusedVariables false
theorem rc_all {b c d : Int} {p q : St} : rcOk b c d p q = ((p.zero == q.zero) && (p.chk == 0 && (q.chk == 0 && (near (offS b c) && near (offS b d))))) := by
  unfold rcOk; simp
set_option maxRecDepth 100000 in
set_option maxHeartbeats 8000000 in
attribute [-go_sem] run_eql_struct in
theorem rrc_any (b c d : Int) (p q : St) (w : World) (hT : Tab w) (B : RBd b c d p q) :
    Calls Tryd.prog 25 #[rcV b c d p q] w fun e w' => e = .returned (.int .i64 (rcE b c d p q)) ∧ Below w.heap.size w w' := by
  have i0 := Civ.Inv.start hT
  have zp := eq_st p
  have zq := eq_st q
  have hof := fun w => roffs_any b c d p q w B
  have HA := Lib.hid (rc_all (b := b) (c := c) (d := d) (p := p) (q := q))
  have hn1 := fun w => rnear_any (offS b c) w
  have hn2 := fun w => rnear_any (offS b d) w
  have hcp := fun w => rchk8 (w := w) B.p
  have hcq := fun w => rchk8 (w := w) B.q
  generalize offS b c = o1 at *
  generalize offS b d = o2 at *
  cases h1 : near o1
  · have HR := Lib.hid (show rcOk b c d p q = false by rw [HA.out, h1]; simp)
    rw [h1] at hn1
    clear h1
    go_enter Tryd.func25, Tryd.ntmps25
    have r_1 := (Wd.Blk.new w 26 (rcA b c d p q))
    have inv_1 := (i0.alloc (.cells (rcA b c d p q) 26))
    go_wp2_with (first | refine wpList_row_g rfl 26 _ rfl _ rfl _ _ _ _ r_1 Tryd.underlying26 rfl (by kernel_rfl) ?_)
    have r_2 := r_1
    have inv_2 := inv_1
    refine (hof _).mono ?_; rintro e w_2 ⟨rfl, hb_2⟩
    have rc_2 := r_2.below hb_2 r_2.lt
    have invc_2 := inv_2.call hb_2
    clear r_2 inv_2 hb_2
    go_wp2_with fail
    refine (hn1 _).mono ?_; rintro e wq ⟨rfl, rfl⟩
    go_wp2_with fail
    go_ret
    exact ⟨rc_bad HR.out, invc_2.2⟩
  · rw [h1] at hn1
    cases h2 : near o2
    · have HR := Lib.hid (show rcOk b c d p q = false by rw [HA.out, h2]; simp)
      rw [h2] at hn2
      clear h1 h2
      go_enter Tryd.func25, Tryd.ntmps25
      have r_1 := (Wd.Blk.new w 26 (rcA b c d p q))
      have inv_1 := (i0.alloc (.cells (rcA b c d p q) 26))
      go_wp2_with (first | refine wpList_row_g rfl 26 _ rfl _ rfl _ _ _ _ r_1 Tryd.underlying26 rfl (by kernel_rfl) ?_)
      have r_2 := r_1
      have inv_2 := inv_1
      refine (hof _).mono ?_; rintro e w_2 ⟨rfl, hb_2⟩
      have rc_2 := r_2.below hb_2 r_2.lt
      have invc_2 := inv_2.call hb_2
      clear r_2 inv_2 hb_2
      go_wp2_with fail
      refine (hn1 _).mono ?_; rintro e wq ⟨rfl, rfl⟩
      go_wp2_with fail
      refine (hn2 _).mono ?_; rintro e wq ⟨rfl, rfl⟩
      go_wp2_with fail
      go_ret
      exact ⟨rc_bad HR.out, invc_2.2⟩
    · rw [h2] at hn2
      by_cases h3 : p.chk = 0
      · rw [h3] at hcp
        by_cases h4 : q.chk = 0
        · rw [h4] at hcq
          cases h5 : (p.zero == q.zero)
          · have HR := Lib.hid (show rcOk b c d p q = false by rw [HA.out, h5]; rfl)
            clear h1 h2 h3 h4
            go_enter Tryd.func25, Tryd.ntmps25
            have r_1 := (Wd.Blk.new w 26 (rcA b c d p q))
            have inv_1 := (i0.alloc (.cells (rcA b c d p q) 26))
            go_wp2_with (first | refine wpList_row_g rfl 26 _ rfl _ rfl _ _ _ _ r_1 Tryd.underlying26 rfl (by kernel_rfl) ?_)
            have r_2 := r_1
            have inv_2 := inv_1
            refine (hof _).mono ?_; rintro e w_2 ⟨rfl, hb_2⟩
            have rc_2 := r_2.below hb_2 r_2.lt
            have invc_2 := inv_2.call hb_2
            clear r_2 inv_2 hb_2
            go_wp2_with fail
            refine (hn1 _).mono ?_; rintro e wq ⟨rfl, rfl⟩
            go_wp2_with fail
            refine (hn2 _).mono ?_; rintro e wq ⟨rfl, rfl⟩
            go_wp2_with (first | refine wpList_seg_g rfl 24 _ rfl _ 3 (sA p) rfl _ _ _ _ rc_2 Tryd.underlying24 rfl (by kernel_rfl) (by kernel_rfl) ?_)
            have r_3 := rc_2
            have inv_3 := invc_2
            refine (hcp _).mono ?_; rintro e w_3 ⟨rfl, hb_3⟩
            have rc_3 := r_3.below hb_3 r_3.lt
            have invc_3 := inv_3.call hb_3
            clear r_3 inv_3 hb_3
            go_wp2_with (first | refine wpList_seg_g rfl 24 _ rfl _ 11 (sA q) rfl _ _ _ _ rc_3 Tryd.underlying24 rfl (by kernel_rfl) (by kernel_rfl) ?_)
            have r_4 := rc_3
            have inv_4 := invc_3
            refine (hcq _).mono ?_; rintro e w_4 ⟨rfl, hb_4⟩
            have rc_4 := r_4.below hb_4 r_4.lt
            have invc_4 := inv_4.call hb_4
            clear r_4 inv_4 hb_4
            have c0 := rc_4.cell 0
            have c1 := rc_4.cell 1
            have c2 := rc_4.cell 2
            have c3 := rc_4.cell 3
            have c4 := rc_4.cell 4
            have c5 := rc_4.cell 5
            have c6 := rc_4.cell 6
            have c7 := rc_4.cell 7
            have c8 := rc_4.cell 8
            have c9 := rc_4.cell 9
            have c10 := rc_4.cell 10
            have c11 := rc_4.cell 11
            have c12 := rc_4.cell 12
            have c13 := rc_4.cell 13
            have c14 := rc_4.cell 14
            have c15 := rc_4.cell 15
            have c16 := rc_4.cell 16
            have c17 := rc_4.cell 17
            have c18 := rc_4.cell 18
            simp at c0 c1 c2 c3 c4 c5 c6 c7 c8 c9 c10 c11 c12 c13 c14 c15 c16 c17 c18
            go_upto_region 4 with fail
            go_quiet (fail)
            go_wp2_with fail
            go_ret
            exact ⟨rc_bad HR.out, bdrewN invc_4.2 _⟩
          · have HR := Lib.hid (show rcOk b c d p q = true by rw [HA.out, h1, h2, h3, h4, h5]; rfl)
            clear h1 h2 h3 h4
            go_enter Tryd.func25, Tryd.ntmps25
            have r_1 := (Wd.Blk.new w 26 (rcA b c d p q))
            have inv_1 := (i0.alloc (.cells (rcA b c d p q) 26))
            go_wp2_with (first | refine wpList_row_g rfl 26 _ rfl _ rfl _ _ _ _ r_1 Tryd.underlying26 rfl (by kernel_rfl) ?_)
            have r_2 := r_1
            have inv_2 := inv_1
            refine (hof _).mono ?_; rintro e w_2 ⟨rfl, hb_2⟩
            have rc_2 := r_2.below hb_2 r_2.lt
            have invc_2 := inv_2.call hb_2
            clear r_2 inv_2 hb_2
            go_wp2_with fail
            refine (hn1 _).mono ?_; rintro e wq ⟨rfl, rfl⟩
            go_wp2_with fail
            refine (hn2 _).mono ?_; rintro e wq ⟨rfl, rfl⟩
            go_wp2_with (first | refine wpList_seg_g rfl 24 _ rfl _ 3 (sA p) rfl _ _ _ _ rc_2 Tryd.underlying24 rfl (by kernel_rfl) (by kernel_rfl) ?_)
            have r_3 := rc_2
            have inv_3 := invc_2
            refine (hcp _).mono ?_; rintro e w_3 ⟨rfl, hb_3⟩
            have rc_3 := r_3.below hb_3 r_3.lt
            have invc_3 := inv_3.call hb_3
            clear r_3 inv_3 hb_3
            go_wp2_with (first | refine wpList_seg_g rfl 24 _ rfl _ 11 (sA q) rfl _ _ _ _ rc_3 Tryd.underlying24 rfl (by kernel_rfl) (by kernel_rfl) ?_)
            have r_4 := rc_3
            have inv_4 := invc_3
            refine (hcq _).mono ?_; rintro e w_4 ⟨rfl, hb_4⟩
            have rc_4 := r_4.below hb_4 r_4.lt
            have invc_4 := inv_4.call hb_4
            clear r_4 inv_4 hb_4
            have c0 := rc_4.cell 0
            have c1 := rc_4.cell 1
            have c2 := rc_4.cell 2
            have c3 := rc_4.cell 3
            have c4 := rc_4.cell 4
            have c5 := rc_4.cell 5
            have c6 := rc_4.cell 6
            have c7 := rc_4.cell 7
            have c8 := rc_4.cell 8
            have c9 := rc_4.cell 9
            have c10 := rc_4.cell 10
            have c11 := rc_4.cell 11
            have c12 := rc_4.cell 12
            have c13 := rc_4.cell 13
            have c14 := rc_4.cell 14
            have c15 := rc_4.cell 15
            have c16 := rc_4.cell 16
            have c17 := rc_4.cell 17
            have c18 := rc_4.cell 18
            simp at c0 c1 c2 c3 c4 c5 c6 c7 c8 c9 c10 c11 c12 c13 c14 c15 c16 c17 c18
            go_upto_region 4 with fail
            go_quiet (fail)
            go_wp2_with fail
            go_ret
            exact ⟨rc_good HR.out, bdrewN invc_4.2 _⟩
        · have HR := Lib.hid (show rcOk b c d p q = false by rw [HA.out]; simp [h4])
          have h4b : (q.chk != 0) = true := by simp [h4]
          clear h1 h2 h3 h4
          go_enter Tryd.func25, Tryd.ntmps25
          have r_1 := (Wd.Blk.new w 26 (rcA b c d p q))
          have inv_1 := (i0.alloc (.cells (rcA b c d p q) 26))
          go_wp2_with (first | refine wpList_row_g rfl 26 _ rfl _ rfl _ _ _ _ r_1 Tryd.underlying26 rfl (by kernel_rfl) ?_)
          have r_2 := r_1
          have inv_2 := inv_1
          refine (hof _).mono ?_; rintro e w_2 ⟨rfl, hb_2⟩
          have rc_2 := r_2.below hb_2 r_2.lt
          have invc_2 := inv_2.call hb_2
          clear r_2 inv_2 hb_2
          go_wp2_with fail
          refine (hn1 _).mono ?_; rintro e wq ⟨rfl, rfl⟩
          go_wp2_with fail
          refine (hn2 _).mono ?_; rintro e wq ⟨rfl, rfl⟩
          go_wp2_with (first | refine wpList_seg_g rfl 24 _ rfl _ 3 (sA p) rfl _ _ _ _ rc_2 Tryd.underlying24 rfl (by kernel_rfl) (by kernel_rfl) ?_)
          have r_3 := rc_2
          have inv_3 := invc_2
          refine (hcp _).mono ?_; rintro e w_3 ⟨rfl, hb_3⟩
          have rc_3 := r_3.below hb_3 r_3.lt
          have invc_3 := inv_3.call hb_3
          clear r_3 inv_3 hb_3
          go_wp2_with (first | refine wpList_seg_g rfl 24 _ rfl _ 11 (sA q) rfl _ _ _ _ rc_3 Tryd.underlying24 rfl (by kernel_rfl) (by kernel_rfl) ?_)
          have r_4 := rc_3
          have inv_4 := invc_3
          refine (hcq _).mono ?_; rintro e w_4 ⟨rfl, hb_4⟩
          have rc_4 := r_4.below hb_4 r_4.lt
          have invc_4 := inv_4.call hb_4
          clear r_4 inv_4 hb_4
          go_wp2_with fail
          go_ret
          exact ⟨rc_bad HR.out, invc_4.2⟩
      · have HR := Lib.hid (show rcOk b c d p q = false by rw [HA.out]; simp [h3])
        have h3b : (p.chk != 0) = true := by simp [h3]
        clear h1 h2 h3
        go_enter Tryd.func25, Tryd.ntmps25
        have r_1 := (Wd.Blk.new w 26 (rcA b c d p q))
        have inv_1 := (i0.alloc (.cells (rcA b c d p q) 26))
        go_wp2_with (first | refine wpList_row_g rfl 26 _ rfl _ rfl _ _ _ _ r_1 Tryd.underlying26 rfl (by kernel_rfl) ?_)
        have r_2 := r_1
        have inv_2 := inv_1
        refine (hof _).mono ?_; rintro e w_2 ⟨rfl, hb_2⟩
        have rc_2 := r_2.below hb_2 r_2.lt
        have invc_2 := inv_2.call hb_2
        clear r_2 inv_2 hb_2
        go_wp2_with fail
        refine (hn1 _).mono ?_; rintro e wq ⟨rfl, rfl⟩
        go_wp2_with fail
        refine (hn2 _).mono ?_; rintro e wq ⟨rfl, rfl⟩
        go_wp2_with (first | refine wpList_seg_g rfl 24 _ rfl _ 3 (sA p) rfl _ _ _ _ rc_2 Tryd.underlying24 rfl (by kernel_rfl) (by kernel_rfl) ?_)
        have r_3 := rc_2
        have inv_3 := invc_2
        refine (hcp _).mono ?_; rintro e w_3 ⟨rfl, hb_3⟩
        have rc_3 := r_3.below hb_3 r_3.lt
        have invc_3 := inv_3.call hb_3
        clear r_3 inv_3 hb_3
        go_wp2_with fail
        go_ret
        exact ⟨rc_bad HR.out, invc_3.2⟩
theorem lc_near {s : St} (B : s.Bd) {Y : Int} (he : leS s Y = 0) : -1000000000000000 ≤ lcS s Y ∧ lcS s Y ≤ 1000000000000000 := by
  obtain ⟨hok, e1, e2, hY1, hY2, m1, m2, v6, h23, i59, s59, u999, d1⟩ := Stp.dt_ok B he
  obtain ⟨_, _, _, _, b5, b6, b7, b8⟩ := B
  have hnr := Cal.num_range hok
  have el : lcS s Y = Cal.num (Stp.dtY s.y s.m s.v s.d s.h s.i s.s s.u Y) (Stp.dtM s.y s.m s.v s.d s.h s.i s.s s.u Y) (Stp.dtD s.y s.m s.v s.d s.h s.i s.s s.u Y) * 86400000 + Stp.msT s.h s.i s.s s.u := if_pos he
  have hm : 0 ≤ Stp.msT s.h s.i s.s s.u ∧ Stp.msT s.h s.i s.s s.u < 86400000 := by unfold Stp.msT; omega
  rw [el]; omega
set_option maxRecDepth 20000 in
set_option maxHeartbeats 1600000 in
theorem rturn_any (s : St) (Y off : Int) (w : World) (hT : Tab w) (B : s.Bd) (ho : -1152921504606846976 ≤ off ∧ off ≤ 1152921504606846976) :
    Calls Tryd.prog 145 #[.agg (sA s), .int .i64 Y, .int .i64 off] w fun e w' => e = .returned (.int .i64 (secV s Y off)) ∧ Below w.heap.size w w' := by
  have i0 := Civ.Inv.start hT
  have i1 := i0.alloc (.cells (sA s) 24)
  have hloc : Calls Tryd.prog 112 #[.agg (sA s), .int .i64 Y] _ fun e w' => e = .returned (.tuple #[.int .i64 (lcS s Y), .int .i64 (leS s Y)]) ∧ Below _ _ w' := rlocal_any _ _ _ _ _ _ _ _ Y _ i1.1 B
  by_cases he : leS s Y = 0
  · have hb := lc_near B he
    have hv : secV s Y off = (lcS s Y + 999) / 1000 - off := by unfold secV; rw [if_pos he]
    rw [hv]; rw [he] at hloc; clear hv he
    generalize lcS s Y = L at *
    have hC : L.tdiv 1000 = (L + 999) / 1000 ∨ L.tdiv 1000 = (L + 999) / 1000 - 1 := by
      by_cases hm : 0 < L.tmod 1000
      · have := ceil_hi hm; omega
      · exact Or.inl (ceil_lo hm)
    have hCb : ((L + 999) / 1000 - 1) * 1000 < L ∧ L ≤ (L + 999) / 1000 * 1000 := by omega
    have hd : -1000000000001 ≤ (L + 999) / 1000 ∧ (L + 999) / 1000 ≤ 1000000000001 := by omega
    generalize (L + 999) / 1000 = C at *
    obtain ⟨T, hT'⟩ : ∃ T, L.tdiv 1000 = T := ⟨_, rfl⟩
    rw [hT'] at hC
    obtain ⟨b1, b2⟩ := hb
    obtain ⟨d1, d2⟩ := hd
    obtain ⟨c1, c2⟩ := hCb
    obtain ⟨o1, o2⟩ := ho
    go_enter Tryd.func145, Tryd.ntmps145
    go_wp2_with fail
    refine hloc.mono ?_; rintro e w1 ⟨rfl, hb1⟩
    have i2 := i1.call hb1
    clear hloc i1 hb1
    go_wp2_with fail
    clear hT'
    go_loop [9] (fun t => t = .int .i64 C ∨ t = .int .i64 (C - 1)) (fun t => (C - intOf t).toNat)
    case atStart => rcases hC with rfl | rfl <;> first | exact Or.inl rfl | exact Or.inr rfl
    case round =>
      clear hC
      rcases hrel with rfl | rfl
      · go_wp2_with fail
        go_loop [9] (fun t => t = .int .i64 C) (fun _ => 0)
        case atStart => rfl
        case round =>
          obtain rfl := hrel
          go_wp2_with fail
          go_ret
          exact ⟨rfl, i2.2⟩
      · go_wp2_with fail
        go_round
        case rel => exact Or.inl (by go_num)
        case measure => simp [intOf]; omega
  · have hv : secV s Y off = 4611686018427387904 := by unfold secV; rw [if_neg he]
    rw [hv]; clear hv
    have heb : (leS s Y != 0) = true := by simp [he]
    go_enter Tryd.func145, Tryd.ntmps145
    go_wp2_with fail
    refine hloc.mono ?_; rintro e w1 ⟨rfl, hb1⟩
    have i2 := i1.call hb1
    clear he
    go_wp2_with fail
    go_ret
    exact ⟨rfl, i2.2⟩
end Go.Proofs.YtefcjccapekjdaaDoor.Rf
