/-
  THE PLANE: PlaneTurned walked.
-/
import Derived.Test.YtoiccljmdplfgaaPl5
import Derived.Test.YtoiccljmdplfgaaPl8
import Derived.Test.YtoiccljmdplfgaaPl9
namespace Go.Proofs.Ytoiccljmdplfgaa.Pl
open Go.ChangeShapes Go.WideShapes Go.ChangeAt Go.RowKit
open Go.Proofs.Ytoiccljmdplfgaa
open Go.Proofs.Ytoiccljmdplfgaa.Wd
open Go.Proofs.Ytoiccljmdplfgaa.Flo (fl Is)
set_option linter.unusedVariables false
attribute [local go_sem ↓] Go.wp_at_zero Go.wp_at_succ
set_option maxRecDepth 100000 in
set_option maxHeartbeats 8000000 in
theorem turned_bad (a1 a2 b1 b2 c1 c2 n m : Int) (w : World) (h : ok3 ⟨a1, a2⟩ ⟨b1, b2⟩ ⟨c1, c2⟩ = false) :
    Calls Try.prog 3 #[.agg #[.int .i64 a1, .int .i64 a2], .agg #[.int .i64 b1, .int .i64 b2], .agg #[.int .i64 c1, .int .i64 c2], .int .i64 n, .int .i64 m] w fun e w' => e = .returned (.bool true) ∧ Below w.heap.size w w' := by
  have i0 := BI.start w
  have hT := fun w => turn_at a1 a2 b1 b2 c1 c2 w
  have hK := fun w => bet_at a1 a2 b1 b2 c1 c2 w
  rw [show turnV ⟨a1, a2⟩ ⟨b1, b2⟩ ⟨c1, c2⟩ = 0 by unfold turnV; rw [h]; rfl] at hT
  rw [show betV ⟨a1, a2⟩ ⟨b1, b2⟩ ⟨c1, c2⟩ = false by unfold betV; rw [h]; rfl] at hK
  have hca := fun w => chk_at a1 a2 w
  have hcb := fun w => chk_at b1 b2 w
  have hcc := fun w => chk_at c1 c2 w
  unfold chkV at hca hcb hcc
  unfold ok3 at h
  cases ha : P2.ok ⟨a1, a2⟩
  · rw [if_neg (by rw [ha]; decide)] at hca
    clear h ha
    go_enter Try.func3, Try.ntmps3
    go_wp2_with fail
    have a_1 := (((Wd.Blk.new w 23 #[.int .i64 a1, .int .i64 a2]).alloc (.cells #[.int .i64 b1, .int .i64 b2] 23)).alloc (.cells #[.int .i64 c1, .int .i64 c2] 23))
    have b_1 := ((blk_at (w.alloc (.cells #[.int .i64 a1, .int .i64 a2] 23)) 23 #[.int .i64 b1, .int .i64 b2] (sz1 _ _ rfl)).alloc (.cells #[.int .i64 c1, .int .i64 c2] 23))
    have c_1 := (blk_at ((w.alloc (.cells #[.int .i64 a1, .int .i64 a2] 23)).alloc (.cells #[.int .i64 b1, .int .i64 b2] 23)) 23 #[.int .i64 c1, .int .i64 c2] (sz1 _ _ (sz1 _ _ rfl)))
    have inv_1 := (((i0.alloc (.cells #[.int .i64 a1, .int .i64 a2] 23)).alloc (.cells #[.int .i64 b1, .int .i64 b2] 23)).alloc (.cells #[.int .i64 c1, .int .i64 c2] 23))
    refine (lives41_any _).mono ?_; rintro e w_1 ⟨rfl, hb_1⟩
    have ac_1 := a_1.below hb_1 a_1.lt
    have bc_1 := b_1.below hb_1 b_1.lt
    have cc_1 := c_1.below hb_1 c_1.lt
    have invc_1 := inv_1.call hb_1
    clear a_1 b_1 c_1 inv_1 hb_1
    go_wp2_with (first | refine wpList_row_g rfl 23 _ rfl _ rfl _ _ _ _ ac_1 Try.underlying23 rfl (by kernel_rfl) ?_ | refine wpList_row_g rfl 23 _ rfl _ rfl _ _ _ _ bc_1 Try.underlying23 rfl (by kernel_rfl) ?_ | refine wpList_row_g rfl 23 _ rfl _ rfl _ _ _ _ cc_1 Try.underlying23 rfl (by kernel_rfl) ?_)
    have a_2 := ac_1
    have b_2 := bc_1
    have c_2 := cc_1
    have inv_2 := invc_1
    refine (hca _).mono ?_; rintro e w_2 ⟨rfl, hb_2⟩
    have ac_2 := a_2.below hb_2 a_2.lt
    have bc_2 := b_2.below hb_2 b_2.lt
    have cc_2 := c_2.below hb_2 c_2.lt
    have invc_2 := inv_2.call hb_2
    clear a_2 b_2 c_2 inv_2 hb_2
    go_wp2_with (first | refine wpList_row_g rfl 23 _ rfl _ rfl _ _ _ _ ac_2 Try.underlying23 rfl (by kernel_rfl) ?_ | refine wpList_row_g rfl 23 _ rfl _ rfl _ _ _ _ bc_2 Try.underlying23 rfl (by kernel_rfl) ?_ | refine wpList_row_g rfl 23 _ rfl _ rfl _ _ _ _ cc_2 Try.underlying23 rfl (by kernel_rfl) ?_)
    have a_3 := ac_2
    have b_3 := bc_2
    have c_3 := cc_2
    have inv_3 := invc_2
    refine (hT _).mono ?_; rintro e w_3 ⟨rfl, hb_3⟩
    have ac_3 := a_3.below hb_3 a_3.lt
    have bc_3 := b_3.below hb_3 b_3.lt
    have cc_3 := c_3.below hb_3 c_3.lt
    have invc_3 := inv_3.call hb_3
    clear a_3 b_3 c_3 inv_3 hb_3
    go_wp2_with (first | refine wpList_row_g rfl 23 _ rfl _ rfl _ _ _ _ ac_3 Try.underlying23 rfl (by kernel_rfl) ?_ | refine wpList_row_g rfl 23 _ rfl _ rfl _ _ _ _ bc_3 Try.underlying23 rfl (by kernel_rfl) ?_ | refine wpList_row_g rfl 23 _ rfl _ rfl _ _ _ _ cc_3 Try.underlying23 rfl (by kernel_rfl) ?_)
    have a_4 := ac_3
    have b_4 := bc_3
    have c_4 := cc_3
    have inv_4 := invc_3
    refine (hK _).mono ?_; rintro e w_4 ⟨rfl, hb_4⟩
    have ac_4 := a_4.below hb_4 a_4.lt
    have bc_4 := b_4.below hb_4 b_4.lt
    have cc_4 := c_4.below hb_4 c_4.lt
    have invc_4 := inv_4.call hb_4
    clear a_4 b_4 c_4 inv_4 hb_4
    go_wp2_with fail
    go_ret
    exact ⟨rfl, invc_4⟩
  · rw [if_pos ha] at hca
    cases hb : P2.ok ⟨b1, b2⟩
    · rw [if_neg (by rw [hb]; decide)] at hcb
      clear h ha hb
      go_enter Try.func3, Try.ntmps3
      go_wp2_with fail
      have a_1 := (((Wd.Blk.new w 23 #[.int .i64 a1, .int .i64 a2]).alloc (.cells #[.int .i64 b1, .int .i64 b2] 23)).alloc (.cells #[.int .i64 c1, .int .i64 c2] 23))
      have b_1 := ((blk_at (w.alloc (.cells #[.int .i64 a1, .int .i64 a2] 23)) 23 #[.int .i64 b1, .int .i64 b2] (sz1 _ _ rfl)).alloc (.cells #[.int .i64 c1, .int .i64 c2] 23))
      have c_1 := (blk_at ((w.alloc (.cells #[.int .i64 a1, .int .i64 a2] 23)).alloc (.cells #[.int .i64 b1, .int .i64 b2] 23)) 23 #[.int .i64 c1, .int .i64 c2] (sz1 _ _ (sz1 _ _ rfl)))
      have inv_1 := (((i0.alloc (.cells #[.int .i64 a1, .int .i64 a2] 23)).alloc (.cells #[.int .i64 b1, .int .i64 b2] 23)).alloc (.cells #[.int .i64 c1, .int .i64 c2] 23))
      refine (lives41_any _).mono ?_; rintro e w_1 ⟨rfl, hb_1⟩
      have ac_1 := a_1.below hb_1 a_1.lt
      have bc_1 := b_1.below hb_1 b_1.lt
      have cc_1 := c_1.below hb_1 c_1.lt
      have invc_1 := inv_1.call hb_1
      clear a_1 b_1 c_1 inv_1 hb_1
      go_wp2_with (first | refine wpList_row_g rfl 23 _ rfl _ rfl _ _ _ _ ac_1 Try.underlying23 rfl (by kernel_rfl) ?_ | refine wpList_row_g rfl 23 _ rfl _ rfl _ _ _ _ bc_1 Try.underlying23 rfl (by kernel_rfl) ?_ | refine wpList_row_g rfl 23 _ rfl _ rfl _ _ _ _ cc_1 Try.underlying23 rfl (by kernel_rfl) ?_)
      have a_2 := ac_1
      have b_2 := bc_1
      have c_2 := cc_1
      have inv_2 := invc_1
      refine (hca _).mono ?_; rintro e w_2 ⟨rfl, hb_2⟩
      have ac_2 := a_2.below hb_2 a_2.lt
      have bc_2 := b_2.below hb_2 b_2.lt
      have cc_2 := c_2.below hb_2 c_2.lt
      have invc_2 := inv_2.call hb_2
      clear a_2 b_2 c_2 inv_2 hb_2
      go_wp2_with (first | refine wpList_row_g rfl 23 _ rfl _ rfl _ _ _ _ ac_2 Try.underlying23 rfl (by kernel_rfl) ?_ | refine wpList_row_g rfl 23 _ rfl _ rfl _ _ _ _ bc_2 Try.underlying23 rfl (by kernel_rfl) ?_ | refine wpList_row_g rfl 23 _ rfl _ rfl _ _ _ _ cc_2 Try.underlying23 rfl (by kernel_rfl) ?_)
      have a_3 := ac_2
      have b_3 := bc_2
      have c_3 := cc_2
      have inv_3 := invc_2
      refine (hcb _).mono ?_; rintro e w_3 ⟨rfl, hb_3⟩
      have ac_3 := a_3.below hb_3 a_3.lt
      have bc_3 := b_3.below hb_3 b_3.lt
      have cc_3 := c_3.below hb_3 c_3.lt
      have invc_3 := inv_3.call hb_3
      clear a_3 b_3 c_3 inv_3 hb_3
      go_wp2_with (first | refine wpList_row_g rfl 23 _ rfl _ rfl _ _ _ _ ac_3 Try.underlying23 rfl (by kernel_rfl) ?_ | refine wpList_row_g rfl 23 _ rfl _ rfl _ _ _ _ bc_3 Try.underlying23 rfl (by kernel_rfl) ?_ | refine wpList_row_g rfl 23 _ rfl _ rfl _ _ _ _ cc_3 Try.underlying23 rfl (by kernel_rfl) ?_)
      have a_4 := ac_3
      have b_4 := bc_3
      have c_4 := cc_3
      have inv_4 := invc_3
      refine (hT _).mono ?_; rintro e w_4 ⟨rfl, hb_4⟩
      have ac_4 := a_4.below hb_4 a_4.lt
      have bc_4 := b_4.below hb_4 b_4.lt
      have cc_4 := c_4.below hb_4 c_4.lt
      have invc_4 := inv_4.call hb_4
      clear a_4 b_4 c_4 inv_4 hb_4
      go_wp2_with (first | refine wpList_row_g rfl 23 _ rfl _ rfl _ _ _ _ ac_4 Try.underlying23 rfl (by kernel_rfl) ?_ | refine wpList_row_g rfl 23 _ rfl _ rfl _ _ _ _ bc_4 Try.underlying23 rfl (by kernel_rfl) ?_ | refine wpList_row_g rfl 23 _ rfl _ rfl _ _ _ _ cc_4 Try.underlying23 rfl (by kernel_rfl) ?_)
      have a_5 := ac_4
      have b_5 := bc_4
      have c_5 := cc_4
      have inv_5 := invc_4
      refine (hK _).mono ?_; rintro e w_5 ⟨rfl, hb_5⟩
      have ac_5 := a_5.below hb_5 a_5.lt
      have bc_5 := b_5.below hb_5 b_5.lt
      have cc_5 := c_5.below hb_5 c_5.lt
      have invc_5 := inv_5.call hb_5
      clear a_5 b_5 c_5 inv_5 hb_5
      go_wp2_with fail
      go_ret
      exact ⟨rfl, invc_5⟩
    · rw [if_pos hb] at hcb
      have hc : P2.ok ⟨c1, c2⟩ = false := by rw [ha, hb] at h; simpa using h
      rw [if_neg (by rw [hc]; decide)] at hcc
      clear h ha hb hc
      go_enter Try.func3, Try.ntmps3
      go_wp2_with fail
      have a_1 := (((Wd.Blk.new w 23 #[.int .i64 a1, .int .i64 a2]).alloc (.cells #[.int .i64 b1, .int .i64 b2] 23)).alloc (.cells #[.int .i64 c1, .int .i64 c2] 23))
      have b_1 := ((blk_at (w.alloc (.cells #[.int .i64 a1, .int .i64 a2] 23)) 23 #[.int .i64 b1, .int .i64 b2] (sz1 _ _ rfl)).alloc (.cells #[.int .i64 c1, .int .i64 c2] 23))
      have c_1 := (blk_at ((w.alloc (.cells #[.int .i64 a1, .int .i64 a2] 23)).alloc (.cells #[.int .i64 b1, .int .i64 b2] 23)) 23 #[.int .i64 c1, .int .i64 c2] (sz1 _ _ (sz1 _ _ rfl)))
      have inv_1 := (((i0.alloc (.cells #[.int .i64 a1, .int .i64 a2] 23)).alloc (.cells #[.int .i64 b1, .int .i64 b2] 23)).alloc (.cells #[.int .i64 c1, .int .i64 c2] 23))
      refine (lives41_any _).mono ?_; rintro e w_1 ⟨rfl, hb_1⟩
      have ac_1 := a_1.below hb_1 a_1.lt
      have bc_1 := b_1.below hb_1 b_1.lt
      have cc_1 := c_1.below hb_1 c_1.lt
      have invc_1 := inv_1.call hb_1
      clear a_1 b_1 c_1 inv_1 hb_1
      go_wp2_with (first | refine wpList_row_g rfl 23 _ rfl _ rfl _ _ _ _ ac_1 Try.underlying23 rfl (by kernel_rfl) ?_ | refine wpList_row_g rfl 23 _ rfl _ rfl _ _ _ _ bc_1 Try.underlying23 rfl (by kernel_rfl) ?_ | refine wpList_row_g rfl 23 _ rfl _ rfl _ _ _ _ cc_1 Try.underlying23 rfl (by kernel_rfl) ?_)
      have a_2 := ac_1
      have b_2 := bc_1
      have c_2 := cc_1
      have inv_2 := invc_1
      refine (hca _).mono ?_; rintro e w_2 ⟨rfl, hb_2⟩
      have ac_2 := a_2.below hb_2 a_2.lt
      have bc_2 := b_2.below hb_2 b_2.lt
      have cc_2 := c_2.below hb_2 c_2.lt
      have invc_2 := inv_2.call hb_2
      clear a_2 b_2 c_2 inv_2 hb_2
      go_wp2_with (first | refine wpList_row_g rfl 23 _ rfl _ rfl _ _ _ _ ac_2 Try.underlying23 rfl (by kernel_rfl) ?_ | refine wpList_row_g rfl 23 _ rfl _ rfl _ _ _ _ bc_2 Try.underlying23 rfl (by kernel_rfl) ?_ | refine wpList_row_g rfl 23 _ rfl _ rfl _ _ _ _ cc_2 Try.underlying23 rfl (by kernel_rfl) ?_)
      have a_3 := ac_2
      have b_3 := bc_2
      have c_3 := cc_2
      have inv_3 := invc_2
      refine (hcb _).mono ?_; rintro e w_3 ⟨rfl, hb_3⟩
      have ac_3 := a_3.below hb_3 a_3.lt
      have bc_3 := b_3.below hb_3 b_3.lt
      have cc_3 := c_3.below hb_3 c_3.lt
      have invc_3 := inv_3.call hb_3
      clear a_3 b_3 c_3 inv_3 hb_3
      go_wp2_with (first | refine wpList_row_g rfl 23 _ rfl _ rfl _ _ _ _ ac_3 Try.underlying23 rfl (by kernel_rfl) ?_ | refine wpList_row_g rfl 23 _ rfl _ rfl _ _ _ _ bc_3 Try.underlying23 rfl (by kernel_rfl) ?_ | refine wpList_row_g rfl 23 _ rfl _ rfl _ _ _ _ cc_3 Try.underlying23 rfl (by kernel_rfl) ?_)
      have a_4 := ac_3
      have b_4 := bc_3
      have c_4 := cc_3
      have inv_4 := invc_3
      refine (hcc _).mono ?_; rintro e w_4 ⟨rfl, hb_4⟩
      have ac_4 := a_4.below hb_4 a_4.lt
      have bc_4 := b_4.below hb_4 b_4.lt
      have cc_4 := c_4.below hb_4 c_4.lt
      have invc_4 := inv_4.call hb_4
      clear a_4 b_4 c_4 inv_4 hb_4
      go_wp2_with (first | refine wpList_row_g rfl 23 _ rfl _ rfl _ _ _ _ ac_4 Try.underlying23 rfl (by kernel_rfl) ?_ | refine wpList_row_g rfl 23 _ rfl _ rfl _ _ _ _ bc_4 Try.underlying23 rfl (by kernel_rfl) ?_ | refine wpList_row_g rfl 23 _ rfl _ rfl _ _ _ _ cc_4 Try.underlying23 rfl (by kernel_rfl) ?_)
      have a_5 := ac_4
      have b_5 := bc_4
      have c_5 := cc_4
      have inv_5 := invc_4
      refine (hT _).mono ?_; rintro e w_5 ⟨rfl, hb_5⟩
      have ac_5 := a_5.below hb_5 a_5.lt
      have bc_5 := b_5.below hb_5 b_5.lt
      have cc_5 := c_5.below hb_5 c_5.lt
      have invc_5 := inv_5.call hb_5
      clear a_5 b_5 c_5 inv_5 hb_5
      go_wp2_with (first | refine wpList_row_g rfl 23 _ rfl _ rfl _ _ _ _ ac_5 Try.underlying23 rfl (by kernel_rfl) ?_ | refine wpList_row_g rfl 23 _ rfl _ rfl _ _ _ _ bc_5 Try.underlying23 rfl (by kernel_rfl) ?_ | refine wpList_row_g rfl 23 _ rfl _ rfl _ _ _ _ cc_5 Try.underlying23 rfl (by kernel_rfl) ?_)
      have a_6 := ac_5
      have b_6 := bc_5
      have c_6 := cc_5
      have inv_6 := invc_5
      refine (hK _).mono ?_; rintro e w_6 ⟨rfl, hb_6⟩
      have ac_6 := a_6.below hb_6 a_6.lt
      have bc_6 := b_6.below hb_6 b_6.lt
      have cc_6 := c_6.below hb_6 c_6.lt
      have invc_6 := inv_6.call hb_6
      clear a_6 b_6 c_6 inv_6 hb_6
      go_wp2_with fail
      go_ret
      exact ⟨rfl, invc_6⟩
set_option maxRecDepth 100000 in
set_option maxHeartbeats 8000000 in
theorem turned_no (a1 a2 b1 b2 c1 c2 n m : Int) (w : World) (ha : P2.ok ⟨a1, a2⟩ = true) (hb : P2.ok ⟨b1, b2⟩ = true) (hc : P2.ok ⟨c1, c2⟩ = true) (hn : -9223372036854775808 ≤ n ∧ n ≤ 9223372036854775807) (hm : -9223372036854775808 ≤ m ∧ m ≤ 9223372036854775807) (hK : betV ⟨a1, a2⟩ ⟨b1, b2⟩ ⟨c1, c2⟩ = false) :
    Calls Try.prog 3 #[.agg #[.int .i64 a1, .int .i64 a2], .agg #[.int .i64 b1, .int .i64 b2], .agg #[.int .i64 c1, .int .i64 c2], .int .i64 n, .int .i64 m] w fun e w' => e = .returned (.bool true) ∧ Below w.heap.size w w' := by
  have i0 := BI.start w
  have hca := fun w => chk_at a1 a2 w
  have hcb := fun w => chk_at b1 b2 w
  have hcc := fun w => chk_at c1 c2 w
  unfold chkV at hca hcb hcc
  rw [if_pos ha] at hca; rw [if_pos hb] at hcb; rw [if_pos hc] at hcc
  have t1 := turn_turn ⟨a1, a2⟩ ⟨b1, b2⟩ ⟨c1, c2⟩
  have t2 := turn_back ⟨a1, a2⟩ ⟨b1, b2⟩ ⟨c1, c2⟩
  have tb := turn_bd ⟨a1, a2⟩ ⟨b1, b2⟩ ⟨c1, c2⟩
  have k1 := bet_back ⟨a1, a2⟩ ⟨b1, b2⟩ ⟨c1, c2⟩
  have k2 := bet_self ha hc
  have kt := bet_turn (a := ⟨a1, a2⟩) (b := ⟨b1, b2⟩) (c := ⟨c1, c2⟩)
  have hTT := fun w => turn_at a1 a2 b1 b2 c1 c2 w
  have hD1 : ∀ w, Calls Try.prog 17 #[.agg #[.int .i64 a1, .int .i64 a2], .agg #[.int .i64 b1, .int .i64 b2]] w fun e w' => e = .returned (.int .i64 (distV ⟨a1, a2⟩ ⟨b1, b2⟩)) ∧ Below w.heap.size w w' := fun w => dist_any ⟨a1, a2⟩ ⟨b1, b2⟩ w
  have hD2 : ∀ w, Calls Try.prog 17 #[.agg #[.int .i64 b1, .int .i64 b2], .agg #[.int .i64 a1, .int .i64 a2]] w fun e w' => e = .returned (.int .i64 (distV ⟨b1, b2⟩ ⟨a1, a2⟩)) ∧ Below w.heap.size w w' := fun w => dist_any ⟨b1, b2⟩ ⟨a1, a2⟩ w
  rw [← dist_back ⟨a1, a2⟩ ⟨b1, b2⟩] at hD2
  have d0 := dist_nonneg ⟨a1, a2⟩ ⟨b1, b2⟩
  have dz := dist_0 ha hb
  have ha' := P2.ok_iff.1 ha; have hb' := P2.ok_iff.1 hb; have hc' := P2.ok_iff.1 hc
  simp only at ha' hb' hc' dz
  obtain ⟨E, hE, hDE⟩ : ∃ E : Bool, ((a1 = b1 → E = ((a2 - b2).tmod 1296000 == 0)) ∧ (¬ a1 = b1 → E = false)) ∧ (distV ⟨a1, a2⟩ ⟨b1, b2⟩ == 0) = E := by
    refine ⟨decide (a1 = b1) && ((a2 - b2).tmod 1296000 == 0), ⟨fun h => by simp [h], fun h => by simp [h]⟩, ?_⟩
    rw [Bool.eq_iff_iff, beq_iff_eq, dz, Bool.and_eq_true, decide_eq_true_eq, beq_iff_eq]
    constructor
    · rintro ⟨h1, h2⟩; exact ⟨h1, by rw [← Int.dvd_iff_tmod_eq_zero]; exact Int.dvd_of_emod_eq_zero h2⟩
    · rintro ⟨h1, h2⟩; exact ⟨h1, by rw [← Int.dvd_iff_tmod_eq_zero] at h2; exact Int.emod_eq_zero_of_dvd h2⟩
  have hE := Lib.hid hE
  clear dz ha hb hc
  generalize distV ⟨a1, a2⟩ ⟨b1, b2⟩ = D at *
  generalize hT : turnV ⟨a1, a2⟩ ⟨b1, b2⟩ ⟨c1, c2⟩ = T at *
  obtain ⟨tb1, tb2⟩ := tb
  have tw : IntKind.i64.wrap (-T) = -T := by simp [IntKind.wrap, IntKind.bits, IntKind.signed]; omega
  obtain ⟨va_1, va_2, va_3, va_4⟩ := ha'
  obtain ⟨vb_1, vb_2, vb_3, vb_4⟩ := hb'
  obtain ⟨vc_1, vc_2, vc_3, vc_4⟩ := hc'
  rw [hK] at k1
  clear kt
  have nT : (T != T) = false := by simp
  have nT2 : (-T != -T) = false := by simp
  have nT3 : decide (T < -1) = false := by simp; omega
  have nT4 : decide (1 < T) = false := by simp; omega
  have nT5 : (T == T) = true := by simp
  go_enter Try.func3, Try.ntmps3
  go_wp2_with fail
  have a_1 := (((Wd.Blk.new w 23 #[.int .i64 a1, .int .i64 a2]).alloc (.cells #[.int .i64 b1, .int .i64 b2] 23)).alloc (.cells #[.int .i64 c1, .int .i64 c2] 23))
  have b_1 := ((blk_at (w.alloc (.cells #[.int .i64 a1, .int .i64 a2] 23)) 23 #[.int .i64 b1, .int .i64 b2] (sz1 _ _ rfl)).alloc (.cells #[.int .i64 c1, .int .i64 c2] 23))
  have c_1 := (blk_at ((w.alloc (.cells #[.int .i64 a1, .int .i64 a2] 23)).alloc (.cells #[.int .i64 b1, .int .i64 b2] 23)) 23 #[.int .i64 c1, .int .i64 c2] (sz1 _ _ (sz1 _ _ rfl)))
  have inv_1 := (((i0.alloc (.cells #[.int .i64 a1, .int .i64 a2] 23)).alloc (.cells #[.int .i64 b1, .int .i64 b2] 23)).alloc (.cells #[.int .i64 c1, .int .i64 c2] 23))
  refine (lives41_any _).mono ?_; rintro e w_1 ⟨rfl, hb_1⟩
  have ac_1 := a_1.below hb_1 a_1.lt
  have bc_1 := b_1.below hb_1 b_1.lt
  have cc_1 := c_1.below hb_1 c_1.lt
  have invc_1 := inv_1.call hb_1
  clear a_1 b_1 c_1 inv_1 hb_1
  go_wp2_with (first | refine wpList_row_g rfl 23 _ rfl _ rfl _ _ _ _ ac_1 Try.underlying23 rfl (by kernel_rfl) ?_ | refine wpList_row_g rfl 23 _ rfl _ rfl _ _ _ _ bc_1 Try.underlying23 rfl (by kernel_rfl) ?_ | refine wpList_row_g rfl 23 _ rfl _ rfl _ _ _ _ cc_1 Try.underlying23 rfl (by kernel_rfl) ?_)
  have a_2 := ac_1
  have b_2 := bc_1
  have c_2 := cc_1
  have inv_2 := invc_1
  refine (hca _).mono ?_; rintro e w_2 ⟨rfl, hb_2⟩
  have ac_2 := a_2.below hb_2 a_2.lt
  have bc_2 := b_2.below hb_2 b_2.lt
  have cc_2 := c_2.below hb_2 c_2.lt
  have invc_2 := inv_2.call hb_2
  clear a_2 b_2 c_2 inv_2 hb_2
  go_wp2_with (first | refine wpList_row_g rfl 23 _ rfl _ rfl _ _ _ _ ac_2 Try.underlying23 rfl (by kernel_rfl) ?_ | refine wpList_row_g rfl 23 _ rfl _ rfl _ _ _ _ bc_2 Try.underlying23 rfl (by kernel_rfl) ?_ | refine wpList_row_g rfl 23 _ rfl _ rfl _ _ _ _ cc_2 Try.underlying23 rfl (by kernel_rfl) ?_)
  have a_3 := ac_2
  have b_3 := bc_2
  have c_3 := cc_2
  have inv_3 := invc_2
  refine (hcb _).mono ?_; rintro e w_3 ⟨rfl, hb_3⟩
  have ac_3 := a_3.below hb_3 a_3.lt
  have bc_3 := b_3.below hb_3 b_3.lt
  have cc_3 := c_3.below hb_3 c_3.lt
  have invc_3 := inv_3.call hb_3
  clear a_3 b_3 c_3 inv_3 hb_3
  go_wp2_with (first | refine wpList_row_g rfl 23 _ rfl _ rfl _ _ _ _ ac_3 Try.underlying23 rfl (by kernel_rfl) ?_ | refine wpList_row_g rfl 23 _ rfl _ rfl _ _ _ _ bc_3 Try.underlying23 rfl (by kernel_rfl) ?_ | refine wpList_row_g rfl 23 _ rfl _ rfl _ _ _ _ cc_3 Try.underlying23 rfl (by kernel_rfl) ?_)
  have a_4 := ac_3
  have b_4 := bc_3
  have c_4 := cc_3
  have inv_4 := invc_3
  refine (hcc _).mono ?_; rintro e w_4 ⟨rfl, hb_4⟩
  have ac_4 := a_4.below hb_4 a_4.lt
  have bc_4 := b_4.below hb_4 b_4.lt
  have cc_4 := c_4.below hb_4 c_4.lt
  have invc_4 := inv_4.call hb_4
  clear a_4 b_4 c_4 inv_4 hb_4
  go_wp2_with (first | refine wpList_row_g rfl 23 _ rfl _ rfl _ _ _ _ ac_4 Try.underlying23 rfl (by kernel_rfl) ?_ | refine wpList_row_g rfl 23 _ rfl _ rfl _ _ _ _ bc_4 Try.underlying23 rfl (by kernel_rfl) ?_ | refine wpList_row_g rfl 23 _ rfl _ rfl _ _ _ _ cc_4 Try.underlying23 rfl (by kernel_rfl) ?_)
  have a_5 := ac_4
  have b_5 := bc_4
  have c_5 := cc_4
  have inv_5 := invc_4
  refine (hTT _).mono ?_; rintro e w_5 ⟨rfl, hb_5⟩
  have ac_5 := a_5.below hb_5 a_5.lt
  have bc_5 := b_5.below hb_5 b_5.lt
  have cc_5 := c_5.below hb_5 c_5.lt
  have invc_5 := inv_5.call hb_5
  clear a_5 b_5 c_5 inv_5 hb_5
  have a_6 := ac_5
  have b_6 := bc_5
  have c_6 := cc_5
  have inv_6 := invc_5
  have a_0 := a_6.cell 0; have a_1 := a_6.cell 1; simp at a_0 a_1
  have b_0 := b_6.cell 0; have b_1 := b_6.cell 1; simp at b_0 b_1
  have c_0 := c_6.cell 0; have c_1 := c_6.cell 1; simp at c_0 c_1
  clear hTT hca hcb hcc
  go_upto_region 6 with fail
  have ht1 := fun w => turn_at b1 b2 c1 c2 a1 a2 w; have ht2 := fun w => turn_at c1 c2 b1 b2 a1 a2 w
  have hk1 := fun w => bet_at a1 a2 b1 b2 c1 c2 w; have hk2 := fun w => bet_at c1 c2 b1 b2 a1 a2 w; have hk3 := fun w => bet_at a1 a2 a1 a2 c1 c2 w
  rw [t1] at ht1; rw [t2] at ht2; rw [hK] at hk1; rw [k1] at hk2; rw [k2] at hk3
  refine reg6 _ w _ _ _ _ a1 a2 b1 b2 c1 c2 T (of_decide_eq_true (by kernel_rfl)) rfl rfl rfl rfl ht1 ht2 hk1 hk2 hk3 tw nT nT2 nT3 nT4 inv_6 a_6 b_6 c_6 ?_
  intro W1 j1 za zb zc
  simp only [vals6, List.foldl, List.setIfInBounds_toArray, List.set_cons_succ, List.set_cons_zero, Exit.then]
  clear inv_6 a_6 b_6 c_6 a_0 a_1 b_0 b_1 c_0 c_1 ht1 ht2 hk1 hk2 hk3
  go_wp2_with (first | refine wpList_row_g rfl 23 _ rfl _ rfl _ _ _ _ za Try.underlying23 rfl (by kernel_rfl) ?_ | refine wpList_row_g rfl 23 _ rfl _ rfl _ _ _ _ zb Try.underlying23 rfl (by kernel_rfl) ?_ | refine wpList_row_g rfl 23 _ rfl _ rfl _ _ _ _ zc Try.underlying23 rfl (by kernel_rfl) ?_)
  have a_8 := za
  have b_8 := zb
  have c_8 := zc
  have inv_8 := j1
  refine (hD1 _).mono ?_; rintro e w_8 ⟨rfl, hb_8⟩
  have ac_8 := a_8.below hb_8 a_8.lt
  have bc_8 := b_8.below hb_8 b_8.lt
  have cc_8 := c_8.below hb_8 c_8.lt
  have invc_8 := inv_8.call hb_8
  clear a_8 b_8 c_8 inv_8 hb_8
  have a_9 := ac_8
  have b_9 := bc_8
  have c_9 := cc_8
  have inv_9 := invc_8
  have a_0 := a_9.cell 0; have a_1 := a_9.cell 1; simp at a_0 a_1
  have b_0 := b_9.cell 0; have b_1 := b_9.cell 1; simp at b_0 b_1
  have c_0 := c_9.cell 0; have c_1 := c_9.cell 1; simp at c_0 c_1
  go_upto_region 9 with fail
  go_cut [13] (fun e_ wx => e_ = .bool E ∧ wx = w_8)
  case first =>
    by_cases h1 : a1 = b1
    · have hb1 : (a1 == b1) = true := by simp [h1]
      have HE := Lib.hid (hE.out.1 h1)
      clear h1
      go_wp2_with fail; go_meet; exact ⟨by rw [HE.out], rfl⟩
    · have hb1 : (a1 == b1) = false := by simp [h1]
      have HE := Lib.hid (hE.out.2 h1)
      clear h1
      go_wp2_with fail; go_meet; exact ⟨by rw [HE.out], rfl⟩
  case rest =>
    obtain ⟨rfl, rfl⟩ := hcut
    clear a_0 a_1 b_0 b_1 c_0 c_1
    go_wp2_with (first | refine wpList_row_g rfl 23 _ rfl _ rfl _ _ _ _ a_9 Try.underlying23 rfl (by kernel_rfl) ?_ | refine wpList_row_g rfl 23 _ rfl _ rfl _ _ _ _ b_9 Try.underlying23 rfl (by kernel_rfl) ?_ | refine wpList_row_g rfl 23 _ rfl _ rfl _ _ _ _ c_9 Try.underlying23 rfl (by kernel_rfl) ?_)
    have a_10 := a_9
    have b_10 := b_9
    have c_10 := c_9
    have inv_10 := inv_9
    refine (hD2 _).mono ?_; rintro e w_10 ⟨rfl, hb_10⟩
    have ac_10 := a_10.below hb_10 a_10.lt
    have bc_10 := b_10.below hb_10 b_10.lt
    have cc_10 := c_10.below hb_10 c_10.lt
    have invc_10 := inv_10.call hb_10
    clear a_10 b_10 c_10 inv_10 hb_10
    have a_11 := ac_10
    have b_11 := bc_10
    have c_11 := cc_10
    have inv_11 := invc_10
    have a_0 := a_11.cell 0; have a_1 := a_11.cell 1; simp at a_0 a_1
    have b_0 := b_11.cell 0; have b_1 := b_11.cell 1; simp at b_0 b_1
    have c_0 := c_11.cell 0; have c_1 := c_11.cell 1; simp at c_0 c_1
    go_upto_region 12 with fail
    have hmx := fun (w : World) ts t => run_max6 (P := Try.prog) w ts t a1 a2 b1 b2 c1 c2
    have hmn := fun (w : World) ts t => run_min6 (P := Try.prog) w ts t a1 a2 b1 b2 c1 c2
    by_cases hM : max6 a1 a2 b1 b2 c1 c2 ≤ 324000
    · by_cases hN : -324000 ≤ min6 a1 a2 b1 b2 c1 c2
      · have HM := max6_le.1 hM; have HN := min6_ge.1 hN
        generalize max6 a1 a2 b1 b2 c1 c2 = M at *; generalize min6 a1 a2 b1 b2 c1 c2 = N at *
        have sqa : P2.sq ⟨a1, a2⟩ := by unfold P2.sq; simp only; omega
        have sqb : P2.sq ⟨b1, b2⟩ := by unfold P2.sq; simp only; omega
        have sqc : P2.sq ⟨c1, c2⟩ := by unfold P2.sq; simp only; omega
        have bn := tmod8 n; have bm := tmod8 m
        clear HM HN va_1 va_2 va_3 va_4 vb_1 vb_2 vb_3 vb_4 vc_1 vc_2 vc_3 vc_4 hD1 hD2 t1 t2 k1 k2 tw
        go_upto_region 15 with fail
        clear hmx hmn hM hN
        generalize n.tmod 8 = n1 at *; generalize m.tmod 8 = m1 at *
        have f1 := turn_quart sqa sqb sqc n1; have f2 := bet_quart sqa sqb sqc n1; have f3 := quart_back sqa n1; have f4 := quart_add sqa n1 m1; have f6 := quart_4 sqa
        rw [hT] at f1; rw [hK] at f2
        obtain ⟨x1, x2, hx⟩ : ∃ x1 x2, quart ⟨a1, a2⟩ n1 = ⟨x1, x2⟩ := ⟨_, _, rfl⟩
        obtain ⟨y1, y2, hy⟩ : ∃ x1 x2, quart ⟨b1, b2⟩ n1 = ⟨x1, x2⟩ := ⟨_, _, rfl⟩
        obtain ⟨z1, z2, hz⟩ : ∃ x1 x2, quart ⟨c1, c2⟩ n1 = ⟨x1, x2⟩ := ⟨_, _, rfl⟩
        obtain ⟨p1, p2, hp⟩ : ∃ x1 x2, quart ⟨a1, a2⟩ (n1 + m1) = ⟨x1, x2⟩ := ⟨_, _, rfl⟩
        rw [hx, hy, hz] at f1 f2; rw [hx] at f3 f4; rw [hp] at f4
        have q0 : -9223372036854775808 ≤ n1 ∧ n1 ≤ 9223372036854775807 := by omega
        have q1 : -9223372036854775808 ≤ -n1 ∧ -n1 ≤ 9223372036854775807 := by omega
        have q2 : -9223372036854775808 ≤ m1 ∧ m1 ≤ 9223372036854775807 := by omega
        have q3 : -9223372036854775808 ≤ n1 + m1 ∧ n1 + m1 ≤ 9223372036854775807 := by omega
        have W1' := Lib.hid (show IntKind.i64.wrap (-n1) = -n1 by simp [IntKind.wrap, IntKind.bits, IntKind.signed]; omega)
        have W2' := Lib.hid (show IntKind.i64.wrap (n1 + m1) = n1 + m1 by simp [IntKind.wrap, IntKind.bits, IntKind.signed]; omega)
        have F1 := Lib.hid f1; have F2 := Lib.hid f2; have F3 := Lib.hid f3; have F4 := Lib.hid f4; have F6 := Lib.hid f6; have HP := Lib.hid hp; have HT := Lib.hid hT; have HK := Lib.hid hK
        clear f1 f2 f3 f4 f6 hp hT hK sqa sqb sqc bn bm
        have hqa := fun w => quart_at a1 a2 n1 w q0; have hqb := fun w => quart_at b1 b2 n1 w q0; have hqc := fun w => quart_at c1 c2 n1 w q0
        rw [hx] at hqa; rw [hy] at hqb; rw [hz] at hqc
        clear hx hy hz
        go_cut [14, 15, 16] (fun s_ t_ u_ wx => ∃ g_x g_y g_z : Nat, s_ = .pointer (some ⟨g_x, 0, none⟩) ∧ t_ = .pointer (some ⟨g_y, 0, none⟩) ∧ u_ = .pointer (some ⟨g_z, 0, none⟩) ∧ BI w wx ∧ Blk wx (w.heap.size) 23 #[.int .i64 a1, .int .i64 a2] ∧ Blk wx (w.heap.size + 1) 23 #[.int .i64 b1, .int .i64 b2] ∧ Blk wx (w.heap.size + 1 + 1) 23 #[.int .i64 c1, .int .i64 c2] ∧ Blk wx g_x 23 #[.int .i64 x1, .int .i64 x2] ∧ Blk wx g_y 23 #[.int .i64 y1, .int .i64 y2] ∧ Blk wx g_z 23 #[.int .i64 z1, .int .i64 z2])
        case first =>
          rename_i JJ KK hJJ hKK
          clear a_0 a_1 b_0 b_1 c_0 c_1
          refine reg15 _ w _ _ _ _ a1 a2 b1 b2 c1 c2 x1 x2 y1 y2 z1 z2 n1 (of_decide_eq_true (by kernel_rfl)) rfl rfl rfl rfl hqa hqb hqc inv_11 a_11 b_11 c_11 ?_
          intro w15 gx gy gz iv2 xa2 xb2 xc2 xx xy xz
          simp only [List.foldl, List.setIfInBounds_toArray, List.set_cons_succ, List.set_cons_zero]
          refine hKK _ _ (Met.intro (hJJ _ _ ?_))
          repeat apply Exists.intro
          refine ⟨?rel, rfl⟩
          exact ⟨gx, gy, gz, rfl, rfl, rfl, iv2, xa2, xb2, xc2, xx, xy, xz⟩
        case rest =>
          clear inv_11 a_11 b_11 c_11 a_0 a_1 b_0 b_1 c_0 c_1 hqa hqb hqc
          obtain ⟨gx, gy, gz, rfl, rfl, rfl, iv, xa, xb, xc, xx, xy, xz⟩ := hcut
          have a_0 := xa.cell 0; have a_1 := xa.cell 1; simp at a_0 a_1
          have b_0 := xb.cell 0; have b_1 := xb.cell 1; simp at b_0 b_1
          have c_0 := xc.cell 0; have c_1 := xc.cell 1; simp at c_0 c_1
          have x_0 := xx.cell 0; have x_1 := xx.cell 1; simp at x_0 x_1
          have y_0 := xy.cell 0; have y_1 := xy.cell 1; simp at y_0 y_1
          have z_0 := xz.cell 0; have z_1 := xz.cell 1; simp at z_0 z_1
          have f1 := F1.out; have f2 := F2.out; have f3 := F3.out; have f4 := F4.out; have f6 := F6.out; have hp := HP.out; have hT := HT.out; have hK := HK.out; have w1 := W1'.out; have w2 := W2'.out
          clear F1 F2 F3 F4 F6 HP HT HK W1' W2'
          go_upto_region 16 with fail
          first | (go_region_held3 (fun w' => BI w w' ∧ Blk w' (w.heap.size) 23 #[.int .i64 a1, .int .i64 a2] ∧ Blk w' (w.heap.size + 1) 23 #[.int .i64 b1, .int .i64 b2] ∧ Blk w' (w.heap.size + 1 + 1) 23 #[.int .i64 c1, .int .i64 c2] ∧ w'.cell? ⟨w.heap.size, 0, none⟩ = some (.int .i64 a1) ∧ w'.cell? ⟨w.heap.size, 1, none⟩ = some (.int .i64 a2) ∧ w'.cell? ⟨w.heap.size + 1, 0, none⟩ = some (.int .i64 b1) ∧ w'.cell? ⟨w.heap.size + 1, 1, none⟩ = some (.int .i64 b2) ∧ w'.cell? ⟨w.heap.size + 1 + 1, 0, none⟩ = some (.int .i64 c1) ∧ w'.cell? ⟨w.heap.size + 1 + 1, 1, none⟩ = some (.int .i64 c2) ∧ Blk w' gx 23 #[.int .i64 x1, .int .i64 x2] ∧ w'.cell? ⟨gx, 0, none⟩ = some (.int .i64 x1) ∧ w'.cell? ⟨gx, 1, none⟩ = some (.int .i64 x2) ∧ Blk w' gy 23 #[.int .i64 y1, .int .i64 y2] ∧ w'.cell? ⟨gy, 0, none⟩ = some (.int .i64 y1) ∧ w'.cell? ⟨gy, 1, none⟩ = some (.int .i64 y2) ∧ Blk w' gz 23 #[.int .i64 z1, .int .i64 z2] ∧ w'.cell? ⟨gz, 0, none⟩ = some (.int .i64 z1) ∧ w'.cell? ⟨gz, 1, none⟩ = some (.int .i64 z2))
            (first | assumption | ((go_split_ands; (refine ⟨?_, ?_, ?_, ?_, ?_, ?_, ?_, ?_, ?_, ?_, ?_, ?_, ?_, ?_, ?_, ?_, ?_, ?_, ?_⟩ <;> first | assumption | exact cell_keep (by assumption) hbl | exact BI.call1 (by assumption) hbl | exact BI.below (w0 := w) (by assumption) hbl | exact iv.drew | exact xa.drew | exact xb.drew | exact xc.drew | exact xx.drew | exact xy.drew | exact xz.drew))))
            (first
              | (go_at_call 15; refine (turn_at _ _ _ _ _ _ _).mono ?_; rintro e w' ⟨rfl, hbl⟩; rw [f1])
              | (go_at_call 16; refine (bet_at _ _ _ _ _ _ _).mono ?_; rintro e w' ⟨rfl, hbl⟩; first | rw [f2] | rw [hK])
              | (go_at_call 18; refine (quart_at _ _ _ _ (by first | assumption | decide)).mono ?_; rintro e w' ⟨rfl, hbl⟩; first | rw [f3] | rw [f4] | rw [hp] | rw [f6]))) | fail
          go_wp2
          go_ret
          exact ⟨rfl, BI.ofB (by assumption)⟩
      · generalize max6 a1 a2 b1 b2 c1 c2 = M at *; generalize min6 a1 a2 b1 b2 c1 c2 = N at *
        have hN' : N < -324000 := by omega
        clear hN
        go_wp2_with fail
        go_ret
        exact ⟨rfl, inv_11⟩
    · generalize max6 a1 a2 b1 b2 c1 c2 = M at *; generalize min6 a1 a2 b1 b2 c1 c2 = N at *
      have hM' : 324000 < M := by omega
      clear hM
      go_wp2_with fail
      go_ret
      exact ⟨rfl, inv_11⟩
end Go.Proofs.Ytoiccljmdplfgaa.Pl
