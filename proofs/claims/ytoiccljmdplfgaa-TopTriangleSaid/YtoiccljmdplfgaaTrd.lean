/-
  TEXTS OF POINTS: TopRead walked.
-/
import Derived.Test.YtoiccljmdplfgaaPt4
namespace Go.Proofs.Ytoiccljmdplfgaa.Pt
open Go.ChangeShapes Go.WideShapes Go.ChangeAt Go.RowKit
open Go.Proofs.Ytoiccljmdplfgaa
open Go.Proofs.Ytoiccljmdplfgaa.Wd
open Go.Proofs.Ytoiccljmdplfgaa.Pl
set_option linter.unusedVariables false
theorem eqIn_pt (d : Nat) (a b a' b' : Int) (w : World) : (Op.equalIn (d + 2) 23 (.agg #[.int .i64 a, .int .i64 b]) (.agg #[.int .i64 a', .int .i64 b'])).run Try.prog w = .ok (a == a' && b == b') w := by
  rw [run_equalIn_agg w (d + 1) _ #[.int .i64 a, .int .i64 b] #[.int .i64 a', .int .i64 b'] (by kernel_rfl) (by kernel_rfl)]
  go_simp
  repeat' split
  all_goals simp [*]
theorem eq_pt (a b a' b' : Int) (w : World) : (binOp .eql 23 (.agg #[.int .i64 a, .int .i64 b]) (.agg #[.int .i64 a', .int .i64 b'])).run Try.prog w = .ok (.bool (a == a' && b == b')) w := by
  rw [run_eql_struct, eqIn_pt 9998]; rfl
abbrev S0 : ByteArray := ⟨#[43, 48, 48, 48, 48, 43, 48, 48, 48, 48, 49]⟩
set_option maxRecDepth 100000 in
set_option maxHeartbeats 3200000 in
theorem begins21_any (w : World) : Calls Try.prog 31 #[] w fun e w' => e = .returned (.bool true) ∧ Below w.heap.size w w' := by
  have i0 := BI.start w
  have hp : ∀ w, Calls Try.prog 34 #[.string S0] w fun e w' => e = .returned (.tuple #[.agg #[.int .i64 0, .int .i64 60], .int .i64 0]) ∧ Below w.heap.size w w' := fun w => by
    have h := point_at S0 w
    rw [show V1 (ptV (L S0)) = .agg #[.int .i64 0, .int .i64 60] by
      show Value.agg #[.int .i64 (ptV (L S0)).la, .int .i64 (ptV (L S0)).lo] = _
      rw [show (ptV (L S0)).la = 0 by kernel_rfl, show (ptV (L S0)).lo = 60 by kernel_rfl], show ptE (L S0) = 0 by kernel_rfl] at h
    exact h
  have hd : ∀ w, Calls Try.prog 17 #[.agg #[.int .i64 0, .int .i64 60], .agg #[.int .i64 0, .int .i64 0]] w fun e w' => e = .returned (.int .i64 3600) ∧ Below w.heap.size w w' := fun w => by
    have h := dist_any ⟨0, 60⟩ ⟨0, 0⟩ w
    rw [show distV ⟨0, 60⟩ ⟨0, 0⟩ = 3600 by kernel_rfl] at h
    exact h
  go_enter Try.func31, Try.ntmps31
  go_wp2_with fail
  refine (hp _).mono ?_; rintro e w1 ⟨rfl, hb1⟩
  have y1 := Blk.new w1 23 #[.int .i64 0, .int .i64 60]
  have i1 := (i0.call hb1).alloc (.cells #[.int .i64 0, .int .i64 60] 23)
  clear i0 hb1 hp
  go_wp2_with (first | (refine wpList_store_new rfl 23 _ _ rfl rfl w1.heap.size #[.int .i64 0, .int .i64 60] rfl rfl _ #[.int .i64 0, .int .i64 0] w1 rfl rfl rfl (by kernel_rfl) (by kernel_rfl) ?_) | (refine wpList_row_g rfl 23 _ rfl _ rfl _ _ _ _ y1 Try.underlying23 rfl (by kernel_rfl) ?_))
  refine (hd _).mono ?_; rintro e w2 ⟨rfl, hb2⟩
  have i2 := i1.call hb2
  clear y1 i1 hb2 hd
  go_wp2
  go_ret
  exact ⟨rfl, i2⟩
theorem txt_ok {a1 a2 : Int} (h : P2.ok ⟨a1, a2⟩ = true) (w : World) : Calls Try.prog 33 #[.agg #[.int .i64 a1, .int .i64 a2]] w fun e w' => e = .returned (.tuple #[.string (B (pT ⟨a1, a2⟩)), .int .i64 0]) ∧ Below w.heap.size w w' := by
  have := ptext_any a1 a2 w
  rwa [show txtT ⟨a1, a2⟩ = pT ⟨a1, a2⟩ from if_pos h, show txtE ⟨a1, a2⟩ = 0 from if_pos h] at this
theorem txt_no {a1 a2 : Int} (h : ¬ P2.ok ⟨a1, a2⟩ = true) (w : World) : Calls Try.prog 33 #[.agg #[.int .i64 a1, .int .i64 a2]] w fun e w' => e = .returned (.tuple #[.string (B []), .int .i64 2]) ∧ Below w.heap.size w w' := by
  have := ptext_any a1 a2 w
  rwa [show txtT ⟨a1, a2⟩ = [] from if_neg h, show txtE ⟨a1, a2⟩ = 2 from if_neg h] at this
theorem chk_ok {a1 a2 : Int} (h : P2.ok ⟨a1, a2⟩ = true) (w : World) : Calls Try.prog 14 #[.agg #[.int .i64 a1, .int .i64 a2]] w fun e w' => e = .returned (.int .i64 0) ∧ Below w.heap.size w w' := by
  have := chk_at a1 a2 w
  rwa [show chkV ⟨a1, a2⟩ = 0 from if_pos h] at this
theorem chk_no {a1 a2 : Int} (h : ¬ P2.ok ⟨a1, a2⟩ = true) (w : World) : Calls Try.prog 14 #[.agg #[.int .i64 a1, .int .i64 a2]] w fun e w' => e = .returned (.int .i64 2) ∧ Below w.heap.size w w' := by
  have := chk_at a1 a2 w
  rwa [show chkV ⟨a1, a2⟩ = 2 from if_neg h] at this
theorem pt_ok {a1 a2 : Int} (h : P2.ok ⟨a1, a2⟩ = true) (w : World) : Calls Try.prog 34 #[.string (B (pT ⟨a1, a2⟩))] w fun e w' => e = .returned (.tuple #[.agg #[.int .i64 a1, .int .i64 a2], .int .i64 0]) ∧ Below w.heap.size w w' := by
  have := point_at (B (pT ⟨a1, a2⟩)) w
  rwa [show L (B (pT ⟨a1, a2⟩)) = pT ⟨a1, a2⟩ from rfl, show V1 (ptV (pT ⟨a1, a2⟩)) = .agg #[.int .i64 a1, .int .i64 a2] by unfold V1; rw [(pt_back h).2], ptE_back h] at this
set_option maxRecDepth 100000 in
set_option maxHeartbeats 8000000 in
theorem read_bad (a1 a2 b1 b2 : Int) (w : World) (h : ¬ (P2.ok ⟨a1, a2⟩ = true ∧ P2.ok ⟨b1, b2⟩ = true)) :
    Calls Try.prog 8 #[.agg #[.int .i64 a1, .int .i64 a2], .agg #[.int .i64 b1, .int .i64 b2]] w fun e w' => e = .returned (.bool true) ∧ Below w.heap.size w w' := by
  have i0 := BI.start w
  by_cases ha : P2.ok ⟨a1, a2⟩ = true
  · have hb : ¬ P2.ok ⟨b1, b2⟩ = true := fun q => h ⟨ha, q⟩
    have hta := txt_ok ha; have htb := txt_no hb; have hca := chk_ok ha; have hcb := chk_no hb
    clear h ha hb
    go_enter Try.func8, Try.ntmps8
    go_wp2_with fail
    have a_1 := ((Wd.Blk.new w 23 #[.int .i64 a1, .int .i64 a2]).alloc (.cells #[.int .i64 b1, .int .i64 b2] 23))
    have b_1 := (blk_at (w.alloc (.cells #[.int .i64 a1, .int .i64 a2] 23)) 23 #[.int .i64 b1, .int .i64 b2] (sz1 _ _ rfl))
    have inv_1 := ((i0.alloc (.cells #[.int .i64 a1, .int .i64 a2] 23)).alloc (.cells #[.int .i64 b1, .int .i64 b2] 23))
    refine (begins21_any _).mono ?_; rintro e w_1 ⟨rfl, hb_1⟩
    have ac_1 := a_1.below hb_1 a_1.lt
    have bc_1 := b_1.below hb_1 b_1.lt
    have invc_1 := inv_1.call hb_1
    clear a_1 b_1 inv_1 hb_1
    go_wp2_with (first | refine wpList_row_g rfl 23 _ rfl _ rfl _ _ _ _ ac_1 Try.underlying23 rfl (by kernel_rfl) ?_ | refine wpList_row_g rfl 23 _ rfl _ rfl _ _ _ _ bc_1 Try.underlying23 rfl (by kernel_rfl) ?_)
    have a_2 := ac_1
    have b_2 := bc_1
    have inv_2 := invc_1
    refine (hta _).mono ?_; rintro e w_2 ⟨rfl, hb_2⟩
    have ac_2 := a_2.below hb_2 a_2.lt
    have bc_2 := b_2.below hb_2 b_2.lt
    have invc_2 := inv_2.call hb_2
    clear a_2 b_2 inv_2 hb_2
    go_wp2_with (first | refine wpList_row_g rfl 23 _ rfl _ rfl _ _ _ _ ac_2 Try.underlying23 rfl (by kernel_rfl) ?_ | refine wpList_row_g rfl 23 _ rfl _ rfl _ _ _ _ bc_2 Try.underlying23 rfl (by kernel_rfl) ?_)
    have a_3 := ac_2
    have b_3 := bc_2
    have inv_3 := invc_2
    refine (htb _).mono ?_; rintro e w_3 ⟨rfl, hb_3⟩
    have ac_3 := a_3.below hb_3 a_3.lt
    have bc_3 := b_3.below hb_3 b_3.lt
    have invc_3 := inv_3.call hb_3
    clear a_3 b_3 inv_3 hb_3
    go_wp2_with (first | refine wpList_row_g rfl 23 _ rfl _ rfl _ _ _ _ ac_3 Try.underlying23 rfl (by kernel_rfl) ?_ | refine wpList_row_g rfl 23 _ rfl _ rfl _ _ _ _ bc_3 Try.underlying23 rfl (by kernel_rfl) ?_)
    have a_4 := ac_3
    have b_4 := bc_3
    have inv_4 := invc_3
    refine (hca _).mono ?_; rintro e w_4 ⟨rfl, hb_4⟩
    have ac_4 := a_4.below hb_4 a_4.lt
    have bc_4 := b_4.below hb_4 b_4.lt
    have invc_4 := inv_4.call hb_4
    clear a_4 b_4 inv_4 hb_4
    go_wp2_with (first | refine wpList_row_g rfl 23 _ rfl _ rfl _ _ _ _ ac_4 Try.underlying23 rfl (by kernel_rfl) ?_ | refine wpList_row_g rfl 23 _ rfl _ rfl _ _ _ _ bc_4 Try.underlying23 rfl (by kernel_rfl) ?_)
    have a_5 := ac_4
    have b_5 := bc_4
    have inv_5 := invc_4
    refine (hcb _).mono ?_; rintro e w_5 ⟨rfl, hb_5⟩
    have ac_5 := a_5.below hb_5 a_5.lt
    have bc_5 := b_5.below hb_5 b_5.lt
    have invc_5 := inv_5.call hb_5
    clear a_5 b_5 inv_5 hb_5
    go_wp2
    go_ret
    exact ⟨rfl, invc_5⟩
  · by_cases hb : P2.ok ⟨b1, b2⟩ = true
    · have hta := txt_no ha; have htb := txt_ok hb; have hca := chk_no ha; have hcb := chk_ok hb
      clear h ha hb
      go_enter Try.func8, Try.ntmps8
      go_wp2_with fail
      have a_1 := ((Wd.Blk.new w 23 #[.int .i64 a1, .int .i64 a2]).alloc (.cells #[.int .i64 b1, .int .i64 b2] 23))
      have b_1 := (blk_at (w.alloc (.cells #[.int .i64 a1, .int .i64 a2] 23)) 23 #[.int .i64 b1, .int .i64 b2] (sz1 _ _ rfl))
      have inv_1 := ((i0.alloc (.cells #[.int .i64 a1, .int .i64 a2] 23)).alloc (.cells #[.int .i64 b1, .int .i64 b2] 23))
      refine (begins21_any _).mono ?_; rintro e w_1 ⟨rfl, hb_1⟩
      have ac_1 := a_1.below hb_1 a_1.lt
      have bc_1 := b_1.below hb_1 b_1.lt
      have invc_1 := inv_1.call hb_1
      clear a_1 b_1 inv_1 hb_1
      go_wp2_with (first | refine wpList_row_g rfl 23 _ rfl _ rfl _ _ _ _ ac_1 Try.underlying23 rfl (by kernel_rfl) ?_ | refine wpList_row_g rfl 23 _ rfl _ rfl _ _ _ _ bc_1 Try.underlying23 rfl (by kernel_rfl) ?_)
      have a_2 := ac_1
      have b_2 := bc_1
      have inv_2 := invc_1
      refine (hta _).mono ?_; rintro e w_2 ⟨rfl, hb_2⟩
      have ac_2 := a_2.below hb_2 a_2.lt
      have bc_2 := b_2.below hb_2 b_2.lt
      have invc_2 := inv_2.call hb_2
      clear a_2 b_2 inv_2 hb_2
      go_wp2_with (first | refine wpList_row_g rfl 23 _ rfl _ rfl _ _ _ _ ac_2 Try.underlying23 rfl (by kernel_rfl) ?_ | refine wpList_row_g rfl 23 _ rfl _ rfl _ _ _ _ bc_2 Try.underlying23 rfl (by kernel_rfl) ?_)
      have a_3 := ac_2
      have b_3 := bc_2
      have inv_3 := invc_2
      refine (htb _).mono ?_; rintro e w_3 ⟨rfl, hb_3⟩
      have ac_3 := a_3.below hb_3 a_3.lt
      have bc_3 := b_3.below hb_3 b_3.lt
      have invc_3 := inv_3.call hb_3
      clear a_3 b_3 inv_3 hb_3
      go_wp2_with (first | refine wpList_row_g rfl 23 _ rfl _ rfl _ _ _ _ ac_3 Try.underlying23 rfl (by kernel_rfl) ?_ | refine wpList_row_g rfl 23 _ rfl _ rfl _ _ _ _ bc_3 Try.underlying23 rfl (by kernel_rfl) ?_)
      have a_4 := ac_3
      have b_4 := bc_3
      have inv_4 := invc_3
      refine (hca _).mono ?_; rintro e w_4 ⟨rfl, hb_4⟩
      have ac_4 := a_4.below hb_4 a_4.lt
      have bc_4 := b_4.below hb_4 b_4.lt
      have invc_4 := inv_4.call hb_4
      clear a_4 b_4 inv_4 hb_4
      go_wp2_with (first | refine wpList_row_g rfl 23 _ rfl _ rfl _ _ _ _ ac_4 Try.underlying23 rfl (by kernel_rfl) ?_ | refine wpList_row_g rfl 23 _ rfl _ rfl _ _ _ _ bc_4 Try.underlying23 rfl (by kernel_rfl) ?_)
      have a_5 := ac_4
      have b_5 := bc_4
      have inv_5 := invc_4
      refine (hcb _).mono ?_; rintro e w_5 ⟨rfl, hb_5⟩
      have ac_5 := a_5.below hb_5 a_5.lt
      have bc_5 := b_5.below hb_5 b_5.lt
      have invc_5 := inv_5.call hb_5
      clear a_5 b_5 inv_5 hb_5
      go_wp2
      go_ret
      exact ⟨rfl, invc_5⟩
    · have hta := txt_no ha; have htb := txt_no hb; have hca := chk_no ha; have hcb := chk_no hb
      clear h ha hb
      go_enter Try.func8, Try.ntmps8
      go_wp2_with fail
      have a_1 := ((Wd.Blk.new w 23 #[.int .i64 a1, .int .i64 a2]).alloc (.cells #[.int .i64 b1, .int .i64 b2] 23))
      have b_1 := (blk_at (w.alloc (.cells #[.int .i64 a1, .int .i64 a2] 23)) 23 #[.int .i64 b1, .int .i64 b2] (sz1 _ _ rfl))
      have inv_1 := ((i0.alloc (.cells #[.int .i64 a1, .int .i64 a2] 23)).alloc (.cells #[.int .i64 b1, .int .i64 b2] 23))
      refine (begins21_any _).mono ?_; rintro e w_1 ⟨rfl, hb_1⟩
      have ac_1 := a_1.below hb_1 a_1.lt
      have bc_1 := b_1.below hb_1 b_1.lt
      have invc_1 := inv_1.call hb_1
      clear a_1 b_1 inv_1 hb_1
      go_wp2_with (first | refine wpList_row_g rfl 23 _ rfl _ rfl _ _ _ _ ac_1 Try.underlying23 rfl (by kernel_rfl) ?_ | refine wpList_row_g rfl 23 _ rfl _ rfl _ _ _ _ bc_1 Try.underlying23 rfl (by kernel_rfl) ?_)
      have a_2 := ac_1
      have b_2 := bc_1
      have inv_2 := invc_1
      refine (hta _).mono ?_; rintro e w_2 ⟨rfl, hb_2⟩
      have ac_2 := a_2.below hb_2 a_2.lt
      have bc_2 := b_2.below hb_2 b_2.lt
      have invc_2 := inv_2.call hb_2
      clear a_2 b_2 inv_2 hb_2
      go_wp2_with (first | refine wpList_row_g rfl 23 _ rfl _ rfl _ _ _ _ ac_2 Try.underlying23 rfl (by kernel_rfl) ?_ | refine wpList_row_g rfl 23 _ rfl _ rfl _ _ _ _ bc_2 Try.underlying23 rfl (by kernel_rfl) ?_)
      have a_3 := ac_2
      have b_3 := bc_2
      have inv_3 := invc_2
      refine (htb _).mono ?_; rintro e w_3 ⟨rfl, hb_3⟩
      have ac_3 := a_3.below hb_3 a_3.lt
      have bc_3 := b_3.below hb_3 b_3.lt
      have invc_3 := inv_3.call hb_3
      clear a_3 b_3 inv_3 hb_3
      go_wp2_with (first | refine wpList_row_g rfl 23 _ rfl _ rfl _ _ _ _ ac_3 Try.underlying23 rfl (by kernel_rfl) ?_ | refine wpList_row_g rfl 23 _ rfl _ rfl _ _ _ _ bc_3 Try.underlying23 rfl (by kernel_rfl) ?_)
      have a_4 := ac_3
      have b_4 := bc_3
      have inv_4 := invc_3
      refine (hca _).mono ?_; rintro e w_4 ⟨rfl, hb_4⟩
      have ac_4 := a_4.below hb_4 a_4.lt
      have bc_4 := b_4.below hb_4 b_4.lt
      have invc_4 := inv_4.call hb_4
      clear a_4 b_4 inv_4 hb_4
      go_wp2_with (first | refine wpList_row_g rfl 23 _ rfl _ rfl _ _ _ _ ac_4 Try.underlying23 rfl (by kernel_rfl) ?_ | refine wpList_row_g rfl 23 _ rfl _ rfl _ _ _ _ bc_4 Try.underlying23 rfl (by kernel_rfl) ?_)
      have a_5 := ac_4
      have b_5 := bc_4
      have inv_5 := invc_4
      refine (hcb _).mono ?_; rintro e w_5 ⟨rfl, hb_5⟩
      have ac_5 := a_5.below hb_5 a_5.lt
      have bc_5 := b_5.below hb_5 b_5.lt
      have invc_5 := inv_5.call hb_5
      clear a_5 b_5 inv_5 hb_5
      go_wp2
      go_ret
      exact ⟨rfl, invc_5⟩
set_option maxRecDepth 100000 in
set_option maxHeartbeats 8000000 in
theorem read_same (a1 a2 : Int) (w : World) (ha : P2.ok ⟨a1, a2⟩ = true) :
    Calls Try.prog 8 #[.agg #[.int .i64 a1, .int .i64 a2], .agg #[.int .i64 a1, .int .i64 a2]] w fun e w' => e = .returned (.bool true) ∧ Below w.heap.size w w' := by
  have i0 := BI.start w
  have hdd : ∀ w, Calls Try.prog 17 #[.agg #[.int .i64 a1, .int .i64 a2], .agg #[.int .i64 a1, .int .i64 a2]] w fun e w' => e = .returned (.int .i64 0) ∧ Below w.heap.size w w' := fun w => by
    have h := dist_any ⟨a1, a2⟩ ⟨a1, a2⟩ w
    rwa [(dist_0 ha ha).2 ⟨rfl, by simp⟩] at h
  have hta := txt_ok ha; have hpt := pt_ok ha
  have hfl := flat_ok ha
  have hpc := txt_ok hfl
  have hul := flat_len ⟨a1, a2⟩
  have hdc : ∀ w, Calls Try.prog 17 #[.agg #[.int .i64 a1, .int .i64 a2], .agg #[.int .i64 (a1.tdiv 60 * 60), .int .i64 (a2.tdiv 60 * 60)]] w fun e w' => e = .returned (.int .i64 (distV ⟨a1, a2⟩ (flat ⟨a1, a2⟩))) ∧ Below w.heap.size w w' := fun w => dist_any ⟨a1, a2⟩ (flat ⟨a1, a2⟩) w
  have hD := flat_near ha
  have ha' := P2.ok_iff.1 ha
  obtain ⟨c1, hc1⟩ : ∃ c, a1.tdiv 60 * 60 = c := ⟨_, rfl⟩
  obtain ⟨c2, hc2⟩ : ∃ c, a2.tdiv 60 * 60 = c := ⟨_, rfl⟩
  obtain ⟨d1, hd1⟩ : ∃ c, a1.tdiv 60 = c := ⟨_, rfl⟩
  obtain ⟨d2, hd2⟩ : ∃ c, a2.tdiv 60 = c := ⟨_, rfl⟩
  have hf : flat ⟨a1, a2⟩ = ⟨c1, c2⟩ := by unfold flat; simp only; rw [hc1, hc2]
  rw [hf] at hul hD
  have hpc : ∀ w, Calls Try.prog 33 #[.agg #[.int .i64 c1, .int .i64 c2]] w fun e w' => e = .returned (.tuple #[.string (B (pT ⟨c1, c2⟩)), .int .i64 0]) ∧ Below w.heap.size w w' := by rw [← hc1, ← hc2]; exact hpc
  rw [hc1, hc2, hf] at hdc
  have e1 := td60 a1; have e2 := td60 a2
  rw [hd1] at hc1 e1; rw [hd2] at hc2 e2
  have w1 : IntKind.i64.wrap (d1 * 60) = c1 := by rw [hc1]; simp only at ha'; simp [IntKind.wrap, IntKind.bits, IntKind.signed]; omega
  have w2 : IntKind.i64.wrap (d2 * 60) = c2 := by rw [hc2]; simp only at ha'; simp [IntKind.wrap, IntKind.bits, IntKind.signed]; omega
  have bd1 : -10800 ≤ d1 ∧ d1 ≤ 10800 := by simp only at ha'; omega
  have bd2 : -10800 ≤ d2 ∧ d2 ≤ 10800 := by simp only at ha'; omega
  have hU : ((B (pT ⟨c1, c2⟩)).size : Int) = 11 := by
    show (((pT ⟨c1, c2⟩).toArray.size : Nat) : Int) = 11
    rw [List.size_toArray, hul]; rfl
  clear hul hfl e1 e2 ha'
  generalize distV ⟨a1, a2⟩ ⟨c1, c2⟩ = D at *
  generalize B (pT ⟨c1, c2⟩) = U at *
  have htb := hta
  generalize B (pT ⟨a1, a2⟩) = SA at *
  clear ha hf
  go_enter Try.func8, Try.ntmps8
  go_wp2_with fail
  have a_1 := ((Wd.Blk.new w 23 #[.int .i64 a1, .int .i64 a2]).alloc (.cells #[.int .i64 a1, .int .i64 a2] 23))
  have b_1 := (blk_at (w.alloc (.cells #[.int .i64 a1, .int .i64 a2] 23)) 23 #[.int .i64 a1, .int .i64 a2] (sz1 _ _ rfl))
  have inv_1 := ((i0.alloc (.cells #[.int .i64 a1, .int .i64 a2] 23)).alloc (.cells #[.int .i64 a1, .int .i64 a2] 23))
  refine (begins21_any _).mono ?_; rintro e w_1 ⟨rfl, hb_1⟩
  have ac_1 := a_1.below hb_1 a_1.lt
  have bc_1 := b_1.below hb_1 b_1.lt
  have invc_1 := inv_1.call hb_1
  clear a_1 b_1 inv_1 hb_1
  go_wp2_with (first | refine wpList_row_g rfl 23 _ rfl _ rfl _ _ _ _ ac_1 Try.underlying23 rfl (by kernel_rfl) ?_ | refine wpList_row_g rfl 23 _ rfl _ rfl _ _ _ _ bc_1 Try.underlying23 rfl (by kernel_rfl) ?_)
  have a_2 := ac_1
  have b_2 := bc_1
  have inv_2 := invc_1
  refine (hta _).mono ?_; rintro e w_2 ⟨rfl, hb_2⟩
  have ac_2 := a_2.below hb_2 a_2.lt
  have bc_2 := b_2.below hb_2 b_2.lt
  have invc_2 := inv_2.call hb_2
  clear a_2 b_2 inv_2 hb_2
  go_wp2_with (first | refine wpList_row_g rfl 23 _ rfl _ rfl _ _ _ _ ac_2 Try.underlying23 rfl (by kernel_rfl) ?_ | refine wpList_row_g rfl 23 _ rfl _ rfl _ _ _ _ bc_2 Try.underlying23 rfl (by kernel_rfl) ?_)
  have a_3 := ac_2
  have b_3 := bc_2
  have inv_3 := invc_2
  refine (htb _).mono ?_; rintro e w_3 ⟨rfl, hb_3⟩
  have ac_3 := a_3.below hb_3 a_3.lt
  have bc_3 := b_3.below hb_3 b_3.lt
  have invc_3 := inv_3.call hb_3
  clear a_3 b_3 inv_3 hb_3
  go_wp2_with (first | refine wpList_row_g rfl 23 _ rfl _ rfl _ _ _ _ ac_3 Try.underlying23 rfl (by kernel_rfl) ?_ | refine wpList_row_g rfl 23 _ rfl _ rfl _ _ _ _ bc_3 Try.underlying23 rfl (by kernel_rfl) ?_)
  have a_4 := ac_3
  have b_4 := bc_3
  have inv_4 := invc_3
  refine (hdd _).mono ?_; rintro e w_4 ⟨rfl, hb_4⟩
  have ac_4 := a_4.below hb_4 a_4.lt
  have bc_4 := b_4.below hb_4 b_4.lt
  have invc_4 := inv_4.call hb_4
  clear a_4 b_4 inv_4 hb_4
  go_wp2_with fail
  have a_5 := ac_4
  have b_5 := bc_4
  have inv_5 := invc_4
  refine (hpt _).mono ?_; rintro e w_5 ⟨rfl, hb_5⟩
  have ac_5 := a_5.below hb_5 a_5.lt
  have bc_5 := b_5.below hb_5 b_5.lt
  have invc_5 := inv_5.call hb_5
  clear a_5 b_5 inv_5 hb_5
  have a_6 := (ac_5.alloc (.cells #[.int .i64 a1, .int .i64 a2] 23))
  have b_6 := (bc_5.alloc (.cells #[.int .i64 a1, .int .i64 a2] 23))
  have x_6 := (Wd.Blk.new w_5 23 #[.int .i64 a1, .int .i64 a2])
  have inv_6 := (invc_5.alloc (.cells #[.int .i64 a1, .int .i64 a2] 23))
  have a_0 := a_6.cell 0; have a_1 := a_6.cell 1; simp at a_0 a_1
  go_wp2_with (first | refine wpList_store_new rfl 23 _ _ rfl rfl w_5.heap.size #[.int .i64 a1, .int .i64 a2] rfl rfl _ #[.int .i64 0, .int .i64 0] w_5 rfl rfl rfl (by kernel_rfl) (by kernel_rfl) ?_ | refine wpList_store_new rfl 23 _ _ rfl rfl (w_5.heap.size + 1) #[.int .i64 c1, .int .i64 c2] rfl rfl _ #[.int .i64 0, .int .i64 0] (w_5.alloc (.cells #[.int .i64 a1, .int .i64 a2] 23)) rfl (sz1 _ _ rfl).symm rfl (by kernel_rfl) (by kernel_rfl) ?_ | refine wpList_row_g rfl 23 _ rfl _ rfl _ _ _ _ (blk_at (w_5.alloc (.cells #[.int .i64 a1, .int .i64 a2] 23)) 23 #[.int .i64 c1, .int .i64 c2] (sz1 _ _ rfl)) Try.underlying23 rfl (by kernel_rfl) ?_)
  have a_7 := (a_6.alloc (.cells #[.int .i64 c1, .int .i64 c2] 23))
  have b_7 := (b_6.alloc (.cells #[.int .i64 c1, .int .i64 c2] 23))
  have x_7 := (x_6.alloc (.cells #[.int .i64 c1, .int .i64 c2] 23))
  have c_7 := (blk_at (w_5.alloc (.cells #[.int .i64 a1, .int .i64 a2] 23)) 23 #[.int .i64 c1, .int .i64 c2] (sz1 _ _ rfl))
  have inv_7 := (inv_6.alloc (.cells #[.int .i64 c1, .int .i64 c2] 23))
  refine (hpc _).mono ?_; rintro e w_7 ⟨rfl, hb_7⟩
  have ac_7 := a_7.below hb_7 a_7.lt
  have bc_7 := b_7.below hb_7 b_7.lt
  have xc_7 := x_7.below hb_7 x_7.lt
  have cc_7 := c_7.below hb_7 c_7.lt
  have invc_7 := inv_7.call hb_7
  clear a_7 b_7 x_7 c_7 inv_7 hb_7
  go_wp2_with (first | refine wpList_row_g rfl 23 _ rfl _ rfl _ _ _ _ ac_7 Try.underlying23 rfl (by kernel_rfl) ?_ | refine wpList_row_g rfl 23 _ rfl _ rfl _ _ _ _ bc_7 Try.underlying23 rfl (by kernel_rfl) ?_ | refine wpList_row_g rfl 23 _ rfl _ rfl _ _ _ _ xc_7 Try.underlying23 rfl (by kernel_rfl) ?_ | refine wpList_row_g rfl 23 _ rfl _ rfl _ _ _ _ cc_7 Try.underlying23 rfl (by kernel_rfl) ?_)
  have a_8 := ac_7
  have b_8 := bc_7
  have x_8 := xc_7
  have c_8 := cc_7
  have inv_8 := invc_7
  refine (hdc _).mono ?_; rintro e w_8 ⟨rfl, hb_8⟩
  have ac_8 := a_8.below hb_8 a_8.lt
  have bc_8 := b_8.below hb_8 b_8.lt
  have xc_8 := x_8.below hb_8 x_8.lt
  have cc_8 := c_8.below hb_8 c_8.lt
  have invc_8 := inv_8.call hb_8
  clear a_8 b_8 x_8 c_8 inv_8 hb_8
  go_wp2
  go_ret
  exact ⟨rfl, invc_8⟩
set_option maxRecDepth 100000 in
set_option maxHeartbeats 8000000 in
theorem read_two (a1 a2 b1 b2 : Int) (w : World) (ha : P2.ok ⟨a1, a2⟩ = true) (hb : P2.ok ⟨b1, b2⟩ = true) (hne : ¬ (a1 = b1 ∧ a2 = b2)) :
    Calls Try.prog 8 #[.agg #[.int .i64 a1, .int .i64 a2], .agg #[.int .i64 b1, .int .i64 b2]] w fun e w' => e = .returned (.bool true) ∧ Below w.heap.size w w' := by
  have i0 := BI.start w
  have htb := txt_ok hb
  have hst : (pT ⟨a1, a2⟩ == pT ⟨b1, b2⟩) = false := by
    rw [beq_eq_false_iff_ne]; intro e
    have := (pT_inj ha hb).1 e
    exact hne (by injection this with q1 q2; exact ⟨q1, q2⟩)
  have hta := txt_ok ha; have hpt := pt_ok ha
  have hfl := flat_ok ha
  have hpc := txt_ok hfl
  have hul := flat_len ⟨a1, a2⟩
  have hdc : ∀ w, Calls Try.prog 17 #[.agg #[.int .i64 a1, .int .i64 a2], .agg #[.int .i64 (a1.tdiv 60 * 60), .int .i64 (a2.tdiv 60 * 60)]] w fun e w' => e = .returned (.int .i64 (distV ⟨a1, a2⟩ (flat ⟨a1, a2⟩))) ∧ Below w.heap.size w w' := fun w => dist_any ⟨a1, a2⟩ (flat ⟨a1, a2⟩) w
  have hD := flat_near ha
  have ha' := P2.ok_iff.1 ha
  obtain ⟨c1, hc1⟩ : ∃ c, a1.tdiv 60 * 60 = c := ⟨_, rfl⟩
  obtain ⟨c2, hc2⟩ : ∃ c, a2.tdiv 60 * 60 = c := ⟨_, rfl⟩
  obtain ⟨d1, hd1⟩ : ∃ c, a1.tdiv 60 = c := ⟨_, rfl⟩
  obtain ⟨d2, hd2⟩ : ∃ c, a2.tdiv 60 = c := ⟨_, rfl⟩
  have hf : flat ⟨a1, a2⟩ = ⟨c1, c2⟩ := by unfold flat; simp only; rw [hc1, hc2]
  rw [hf] at hul hD
  have hpc : ∀ w, Calls Try.prog 33 #[.agg #[.int .i64 c1, .int .i64 c2]] w fun e w' => e = .returned (.tuple #[.string (B (pT ⟨c1, c2⟩)), .int .i64 0]) ∧ Below w.heap.size w w' := by rw [← hc1, ← hc2]; exact hpc
  rw [hc1, hc2, hf] at hdc
  have e1 := td60 a1; have e2 := td60 a2
  rw [hd1] at hc1 e1; rw [hd2] at hc2 e2
  have w1 : IntKind.i64.wrap (d1 * 60) = c1 := by rw [hc1]; simp only at ha'; simp [IntKind.wrap, IntKind.bits, IntKind.signed]; omega
  have w2 : IntKind.i64.wrap (d2 * 60) = c2 := by rw [hc2]; simp only at ha'; simp [IntKind.wrap, IntKind.bits, IntKind.signed]; omega
  have bd1 : -10800 ≤ d1 ∧ d1 ≤ 10800 := by simp only at ha'; omega
  have bd2 : -10800 ≤ d2 ∧ d2 ≤ 10800 := by simp only at ha'; omega
  have hU : ((B (pT ⟨c1, c2⟩)).size : Int) = 11 := by
    show (((pT ⟨c1, c2⟩).toArray.size : Nat) : Int) = 11
    rw [List.size_toArray, hul]; rfl
  clear hul hfl e1 e2 ha'
  generalize distV ⟨a1, a2⟩ ⟨c1, c2⟩ = D at *
  generalize B (pT ⟨c1, c2⟩) = U at *
  have hlt : (B (pT ⟨a1, a2⟩)).toList = pT ⟨a1, a2⟩ := Lib.toList_data _
  have hlt2 : (B (pT ⟨b1, b2⟩)).toList = pT ⟨b1, b2⟩ := Lib.toList_data _
  rw [← hlt, ← hlt2] at hst
  clear hlt hlt2
  generalize B (pT ⟨a1, a2⟩) = SA at *
  generalize B (pT ⟨b1, b2⟩) = SB at *
  clear ha hb hf
  have hnb : ∀ w, (binOp .eql 23 (.agg #[.int .i64 a1, .int .i64 a2]) (.agg #[.int .i64 b1, .int .i64 b2])).run Try.prog w = .ok (.bool false) w := fun w => by
    rw [eq_pt]
    congr 2
    cases q : (a1 == b1 && a2 == b2)
    · rfl
    · simp at q; exact absurd q hne
  clear hne
  go_enter Try.func8, Try.ntmps8
  go_wp2_with fail
  have a_1 := ((Wd.Blk.new w 23 #[.int .i64 a1, .int .i64 a2]).alloc (.cells #[.int .i64 b1, .int .i64 b2] 23))
  have b_1 := (blk_at (w.alloc (.cells #[.int .i64 a1, .int .i64 a2] 23)) 23 #[.int .i64 b1, .int .i64 b2] (sz1 _ _ rfl))
  have inv_1 := ((i0.alloc (.cells #[.int .i64 a1, .int .i64 a2] 23)).alloc (.cells #[.int .i64 b1, .int .i64 b2] 23))
  refine (begins21_any _).mono ?_; rintro e w_1 ⟨rfl, hb_1⟩
  have ac_1 := a_1.below hb_1 a_1.lt
  have bc_1 := b_1.below hb_1 b_1.lt
  have invc_1 := inv_1.call hb_1
  clear a_1 b_1 inv_1 hb_1
  go_wp2_with (first | refine wpList_row_g rfl 23 _ rfl _ rfl _ _ _ _ ac_1 Try.underlying23 rfl (by kernel_rfl) ?_ | refine wpList_row_g rfl 23 _ rfl _ rfl _ _ _ _ bc_1 Try.underlying23 rfl (by kernel_rfl) ?_)
  have a_2 := ac_1
  have b_2 := bc_1
  have inv_2 := invc_1
  refine (hta _).mono ?_; rintro e w_2 ⟨rfl, hb_2⟩
  have ac_2 := a_2.below hb_2 a_2.lt
  have bc_2 := b_2.below hb_2 b_2.lt
  have invc_2 := inv_2.call hb_2
  clear a_2 b_2 inv_2 hb_2
  go_wp2_with (first | refine wpList_row_g rfl 23 _ rfl _ rfl _ _ _ _ ac_2 Try.underlying23 rfl (by kernel_rfl) ?_ | refine wpList_row_g rfl 23 _ rfl _ rfl _ _ _ _ bc_2 Try.underlying23 rfl (by kernel_rfl) ?_)
  have a_3 := ac_2
  have b_3 := bc_2
  have inv_3 := invc_2
  refine (htb _).mono ?_; rintro e w_3 ⟨rfl, hb_3⟩
  have ac_3 := a_3.below hb_3 a_3.lt
  have bc_3 := b_3.below hb_3 b_3.lt
  have invc_3 := inv_3.call hb_3
  clear a_3 b_3 inv_3 hb_3
  go_wp2_with (first | refine wpList_row_g rfl 23 _ rfl _ rfl _ _ _ _ ac_3 Try.underlying23 rfl (by kernel_rfl) ?_ | refine wpList_row_g rfl 23 _ rfl _ rfl _ _ _ _ bc_3 Try.underlying23 rfl (by kernel_rfl) ?_)
  have a_4 := ac_3
  have b_4 := bc_3
  have inv_4 := invc_3
  refine (hpt _).mono ?_; rintro e w_4 ⟨rfl, hb_4⟩
  have ac_4 := a_4.below hb_4 a_4.lt
  have bc_4 := b_4.below hb_4 b_4.lt
  have invc_4 := inv_4.call hb_4
  clear a_4 b_4 inv_4 hb_4
  have a_5 := (ac_4.alloc (.cells #[.int .i64 a1, .int .i64 a2] 23))
  have b_5 := (bc_4.alloc (.cells #[.int .i64 a1, .int .i64 a2] 23))
  have x_5 := (Wd.Blk.new w_4 23 #[.int .i64 a1, .int .i64 a2])
  have inv_5 := (invc_4.alloc (.cells #[.int .i64 a1, .int .i64 a2] 23))
  have a_0 := a_5.cell 0; have a_1 := a_5.cell 1; simp at a_0 a_1
  go_wp2_with (first | refine wpList_store_new rfl 23 _ _ rfl rfl w_4.heap.size #[.int .i64 a1, .int .i64 a2] rfl rfl _ #[.int .i64 0, .int .i64 0] w_4 rfl rfl rfl (by kernel_rfl) (by kernel_rfl) ?_ | refine wpList_store_new rfl 23 _ _ rfl rfl (w_4.heap.size + 1) #[.int .i64 c1, .int .i64 c2] rfl rfl _ #[.int .i64 0, .int .i64 0] (w_4.alloc (.cells #[.int .i64 a1, .int .i64 a2] 23)) rfl (sz1 _ _ rfl).symm rfl (by kernel_rfl) (by kernel_rfl) ?_ | refine wpList_row_g rfl 23 _ rfl _ rfl _ _ _ _ (blk_at (w_4.alloc (.cells #[.int .i64 a1, .int .i64 a2] 23)) 23 #[.int .i64 c1, .int .i64 c2] (sz1 _ _ rfl)) Try.underlying23 rfl (by kernel_rfl) ?_)
  have a_6 := (a_5.alloc (.cells #[.int .i64 c1, .int .i64 c2] 23))
  have b_6 := (b_5.alloc (.cells #[.int .i64 c1, .int .i64 c2] 23))
  have x_6 := (x_5.alloc (.cells #[.int .i64 c1, .int .i64 c2] 23))
  have c_6 := (blk_at (w_4.alloc (.cells #[.int .i64 a1, .int .i64 a2] 23)) 23 #[.int .i64 c1, .int .i64 c2] (sz1 _ _ rfl))
  have inv_6 := (inv_5.alloc (.cells #[.int .i64 c1, .int .i64 c2] 23))
  refine (hpc _).mono ?_; rintro e w_6 ⟨rfl, hb_6⟩
  have ac_6 := a_6.below hb_6 a_6.lt
  have bc_6 := b_6.below hb_6 b_6.lt
  have xc_6 := x_6.below hb_6 x_6.lt
  have cc_6 := c_6.below hb_6 c_6.lt
  have invc_6 := inv_6.call hb_6
  clear a_6 b_6 x_6 c_6 inv_6 hb_6
  go_wp2_with (first | refine wpList_row_g rfl 23 _ rfl _ rfl _ _ _ _ ac_6 Try.underlying23 rfl (by kernel_rfl) ?_ | refine wpList_row_g rfl 23 _ rfl _ rfl _ _ _ _ bc_6 Try.underlying23 rfl (by kernel_rfl) ?_ | refine wpList_row_g rfl 23 _ rfl _ rfl _ _ _ _ xc_6 Try.underlying23 rfl (by kernel_rfl) ?_ | refine wpList_row_g rfl 23 _ rfl _ rfl _ _ _ _ cc_6 Try.underlying23 rfl (by kernel_rfl) ?_)
  have a_7 := ac_6
  have b_7 := bc_6
  have x_7 := xc_6
  have c_7 := cc_6
  have inv_7 := invc_6
  refine (hdc _).mono ?_; rintro e w_7 ⟨rfl, hb_7⟩
  have ac_7 := a_7.below hb_7 a_7.lt
  have bc_7 := b_7.below hb_7 b_7.lt
  have xc_7 := x_7.below hb_7 x_7.lt
  have cc_7 := c_7.below hb_7 c_7.lt
  have invc_7 := inv_7.call hb_7
  clear a_7 b_7 x_7 c_7 inv_7 hb_7
  go_wp2
  go_ret
  exact ⟨rfl, invc_7⟩
theorem topread_any (a1 a2 b1 b2 : Int) (w : World) : Calls Try.prog 8 #[.agg #[.int .i64 a1, .int .i64 a2], .agg #[.int .i64 b1, .int .i64 b2]] w fun e w' => e = .returned (.bool true) ∧ Below w.heap.size w w' := by
  by_cases h : P2.ok ⟨a1, a2⟩ = true ∧ P2.ok ⟨b1, b2⟩ = true
  · by_cases hq : a1 = b1 ∧ a2 = b2
    · obtain ⟨rfl, rfl⟩ := hq
      exact read_same a1 a2 w h.1
    · exact read_two a1 a2 b1 b2 w h.1 h.2 hq
  · exact read_bad a1 a2 b1 b2 w h
end Go.Proofs.Ytoiccljmdplfgaa.Pt
