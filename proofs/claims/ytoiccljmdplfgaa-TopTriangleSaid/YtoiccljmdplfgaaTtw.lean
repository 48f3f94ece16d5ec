/-
  THE MIDDLE OF TWO POINTS; TopTriangle walked.
-/
import Derived.Test.YtoiccljmdplfgaaTrd
import Derived.Test.YtoiccljmdplfgaaPlH
import Derived.Test.YtoiccljmdplfgaaTtM
import Derived.Deep.RegionHeld3
namespace Go.Proofs.Ytoiccljmdplfgaa.Pt
open Go.ChangeShapes Go.WideShapes Go.ChangeAt Go.RowKit
open Go.Proofs.Ytoiccljmdplfgaa
open Go.Proofs.Ytoiccljmdplfgaa.Wd
open Go.Proofs.Ytoiccljmdplfgaa.Pl
open Go.Proofs.Ytoiccljmdplfgaa.Flo (fl Is)
set_option linter.unusedVariables false
theorem mid_any {a1 a2 b1 b2 : Int} (ha : P2.ok ⟨a1, a2⟩ = true) (hb : P2.ok ⟨b1, b2⟩ = true) (w : World) :
    Calls Try.prog 32 #[.agg #[.int .i64 a1, .int .i64 a2], .agg #[.int .i64 b1, .int .i64 b2]] w fun e w' => e = .returned (.agg #[.int .i64 (mid ⟨a1, a2⟩ ⟨b1, b2⟩).la, .int .i64 (mid ⟨a1, a2⟩ ⟨b1, b2⟩).lo]) ∧ Below w.heap.size w w' := by
  have ha' := P2.ok_iff.1 ha
  have hb' := P2.ok_iff.1 hb
  simp only at ha' hb'
  obtain ⟨x, y, e1, ix, iy⟩ := cadd (Flo.fl_Is (n := a2) (by omega)) (Flo.fl_Is (n := a1) (by omega)) (Flo.fl_Is (n := b2) (by omega)) (Flo.fl_Is (n := b1) (by omega)) (by omega) (by omega)
  obtain ⟨u, e2, h1⟩ := Flo.half_int ix (by omega)
  obtain ⟨v, e3, h2⟩ := Flo.half_int iy (by omega)
  exact mid_bits ⟨a1, a2⟩ ⟨b1, b2⟩ (mid ⟨a1, a2⟩ ⟨b1, b2⟩) x y u v w (by rw [ha, hb]; rfl) e1 e2 e3 h1 h2
theorem dist_bd (a b : P2) : 0 ≤ distV a b ∧ distV a b ≤ 4611686018427387904 := by
  refine ⟨dist_nonneg a b, ?_⟩
  unfold distV
  split
  · rename_i h
    rw [Bool.and_eq_true] at h
    have ha := P2.ok_iff.1 h.1
    have hb := P2.ok_iff.1 h.2
    have h1 := sq_le (z := a.la - b.la) (B := 648000) (by omega)
    have h2 := sq_le (z := lon (a.lo - b.lo)) (B := 1296000) (by unfold lon gap; split <;> omega)
    omega
  · decide
theorem dist_at (a1 a2 b1 b2 : Int) (w : World) : Calls Try.prog 17 #[.agg #[.int .i64 a1, .int .i64 a2], .agg #[.int .i64 b1, .int .i64 b2]] w fun e w' => e = .returned (.int .i64 (distV ⟨a1, a2⟩ ⟨b1, b2⟩)) ∧ Below w.heap.size w w' := dist_any ⟨a1, a2⟩ ⟨b1, b2⟩ w
theorem wname {w W : World} (h : BI w W) : ∃ V, V = W := ⟨W, rfl⟩
theorem run_neq_pt (a b : Int) (w : World) : (binOp .neq 23 (.agg #[.int .i64 a, .int .i64 b]) (.agg #[.int .i64 a, .int .i64 b])).run Try.prog w = .ok (.bool false) w := by
  rw [run_neq_struct, eqIn_pt 9998]; simp
abbrev six (a1 a2 b1 b2 c1 c2 : Int) : Array Value := #[.int .i64 a1, .int .i64 a2, .int .i64 b1, .int .i64 b2, .int .i64 c1, .int .i64 c2]
set_option maxRecDepth 100000 in
set_option maxHeartbeats 8000000 in
theorem tri_bad (a1 a2 b1 b2 c1 c2 : Int) (w : World) (h : ¬ (P2.ok ⟨a1, a2⟩ = true ∧ P2.ok ⟨b1, b2⟩ = true ∧ P2.ok ⟨c1, c2⟩ = true)) :
    Calls Try.prog 7 #[.agg #[.int .i64 a1, .int .i64 a2], .agg #[.int .i64 b1, .int .i64 b2], .agg #[.int .i64 c1, .int .i64 c2]] w fun e w' => e = .returned (.bool true) ∧ Below w.heap.size w w' := by
  have i0 := BI.start w
  by_cases ha : P2.ok ⟨a1, a2⟩ = true
  · have hca := chk_ok ha
    by_cases hb : P2.ok ⟨b1, b2⟩ = true
    · have hcb := chk_ok hb
      have hcc := chk_no (fun q => h ⟨ha, hb, q⟩)
      clear h ha hb
      go_enter Try.func7, Try.ntmps7
      go_wp2_with fail
      have a_1 := (((Wd.Blk.new w 23 #[.int .i64 a1, .int .i64 a2]).alloc (.cells #[.int .i64 b1, .int .i64 b2] 23)).alloc (.cells #[.int .i64 c1, .int .i64 c2] 23))
      have b_1 := ((blk_at (w.alloc (.cells #[.int .i64 a1, .int .i64 a2] 23)) 23 #[.int .i64 b1, .int .i64 b2] (sz1 _ _ rfl)).alloc (.cells #[.int .i64 c1, .int .i64 c2] 23))
      have c_1 := (blk_at ((w.alloc (.cells #[.int .i64 a1, .int .i64 a2] 23)).alloc (.cells #[.int .i64 b1, .int .i64 b2] 23)) 23 #[.int .i64 c1, .int .i64 c2] (sz1 _ _ (sz1 _ _ rfl)))
      have inv_1 := (((i0.alloc (.cells #[.int .i64 a1, .int .i64 a2] 23)).alloc (.cells #[.int .i64 b1, .int .i64 b2] 23)).alloc (.cells #[.int .i64 c1, .int .i64 c2] 23))
      refine (begins21_any _).mono ?_; rintro e w_1 ⟨rfl, hb_1⟩
      have ac_1 := a_1.below hb_1 a_1.lt
      have bc_1 := b_1.below hb_1 b_1.lt
      have cc_1 := c_1.below hb_1 c_1.lt
      have invc_1 := inv_1.call hb_1
      clear a_1 b_1 c_1 inv_1 hb_1
      go_wp2_with (first | refine wpList_row_g rfl 23 _ rfl _ rfl _ _ _ _ ac_1 Try.underlying23 rfl (by kernel_rfl) ?_ | refine wpList_row_g rfl 23 _ rfl _ rfl _ _ _ _ bc_1 Try.underlying23 rfl (by kernel_rfl) ?_ | refine wpList_row_g rfl 23 _ rfl _ rfl _ _ _ _ cc_1 Try.underlying23 rfl (by kernel_rfl) ?_)
      have a_2 := ac_1
      have b_2 := bc_1
      have c_2 := cc_1
      have inv_2 := invc_1
      refine (hca _).mono ?_; rintro e w_2 ⟨rfl, hb_2⟩
      have ac_2 := a_2.below hb_2 a_2.lt
      have bc_2 := b_2.below hb_2 b_2.lt
      have cc_2 := c_2.below hb_2 c_2.lt
      have invc_2 := inv_2.call hb_2
      clear a_2 b_2 c_2 inv_2 hb_2
      go_wp2_with (first | refine wpList_row_g rfl 23 _ rfl _ rfl _ _ _ _ ac_2 Try.underlying23 rfl (by kernel_rfl) ?_ | refine wpList_row_g rfl 23 _ rfl _ rfl _ _ _ _ bc_2 Try.underlying23 rfl (by kernel_rfl) ?_ | refine wpList_row_g rfl 23 _ rfl _ rfl _ _ _ _ cc_2 Try.underlying23 rfl (by kernel_rfl) ?_)
      have a_3 := ac_2
      have b_3 := bc_2
      have c_3 := cc_2
      have inv_3 := invc_2
      refine (hcb _).mono ?_; rintro e w_3 ⟨rfl, hb_3⟩
      have ac_3 := a_3.below hb_3 a_3.lt
      have bc_3 := b_3.below hb_3 b_3.lt
      have cc_3 := c_3.below hb_3 c_3.lt
      have invc_3 := inv_3.call hb_3
      clear a_3 b_3 c_3 inv_3 hb_3
      go_wp2_with (first | refine wpList_row_g rfl 23 _ rfl _ rfl _ _ _ _ ac_3 Try.underlying23 rfl (by kernel_rfl) ?_ | refine wpList_row_g rfl 23 _ rfl _ rfl _ _ _ _ bc_3 Try.underlying23 rfl (by kernel_rfl) ?_ | refine wpList_row_g rfl 23 _ rfl _ rfl _ _ _ _ cc_3 Try.underlying23 rfl (by kernel_rfl) ?_)
      have a_4 := ac_3
      have b_4 := bc_3
      have c_4 := cc_3
      have inv_4 := invc_3
      refine (hcc _).mono ?_; rintro e w_4 ⟨rfl, hb_4⟩
      have ac_4 := a_4.below hb_4 a_4.lt
      have bc_4 := b_4.below hb_4 b_4.lt
      have cc_4 := c_4.below hb_4 c_4.lt
      have invc_4 := inv_4.call hb_4
      clear a_4 b_4 c_4 inv_4 hb_4
      go_wp2_with fail
      go_ret
      exact ⟨rfl, invc_4⟩
    · have hcb := chk_no hb
      clear h ha hb
      go_enter Try.func7, Try.ntmps7
      go_wp2_with fail
      have a_1 := (((Wd.Blk.new w 23 #[.int .i64 a1, .int .i64 a2]).alloc (.cells #[.int .i64 b1, .int .i64 b2] 23)).alloc (.cells #[.int .i64 c1, .int .i64 c2] 23))
      have b_1 := ((blk_at (w.alloc (.cells #[.int .i64 a1, .int .i64 a2] 23)) 23 #[.int .i64 b1, .int .i64 b2] (sz1 _ _ rfl)).alloc (.cells #[.int .i64 c1, .int .i64 c2] 23))
      have c_1 := (blk_at ((w.alloc (.cells #[.int .i64 a1, .int .i64 a2] 23)).alloc (.cells #[.int .i64 b1, .int .i64 b2] 23)) 23 #[.int .i64 c1, .int .i64 c2] (sz1 _ _ (sz1 _ _ rfl)))
      have inv_1 := (((i0.alloc (.cells #[.int .i64 a1, .int .i64 a2] 23)).alloc (.cells #[.int .i64 b1, .int .i64 b2] 23)).alloc (.cells #[.int .i64 c1, .int .i64 c2] 23))
      refine (begins21_any _).mono ?_; rintro e w_1 ⟨rfl, hb_1⟩
      have ac_1 := a_1.below hb_1 a_1.lt
      have bc_1 := b_1.below hb_1 b_1.lt
      have cc_1 := c_1.below hb_1 c_1.lt
      have invc_1 := inv_1.call hb_1
      clear a_1 b_1 c_1 inv_1 hb_1
      go_wp2_with (first | refine wpList_row_g rfl 23 _ rfl _ rfl _ _ _ _ ac_1 Try.underlying23 rfl (by kernel_rfl) ?_ | refine wpList_row_g rfl 23 _ rfl _ rfl _ _ _ _ bc_1 Try.underlying23 rfl (by kernel_rfl) ?_ | refine wpList_row_g rfl 23 _ rfl _ rfl _ _ _ _ cc_1 Try.underlying23 rfl (by kernel_rfl) ?_)
      have a_2 := ac_1
      have b_2 := bc_1
      have c_2 := cc_1
      have inv_2 := invc_1
      refine (hca _).mono ?_; rintro e w_2 ⟨rfl, hb_2⟩
      have ac_2 := a_2.below hb_2 a_2.lt
      have bc_2 := b_2.below hb_2 b_2.lt
      have cc_2 := c_2.below hb_2 c_2.lt
      have invc_2 := inv_2.call hb_2
      clear a_2 b_2 c_2 inv_2 hb_2
      go_wp2_with (first | refine wpList_row_g rfl 23 _ rfl _ rfl _ _ _ _ ac_2 Try.underlying23 rfl (by kernel_rfl) ?_ | refine wpList_row_g rfl 23 _ rfl _ rfl _ _ _ _ bc_2 Try.underlying23 rfl (by kernel_rfl) ?_ | refine wpList_row_g rfl 23 _ rfl _ rfl _ _ _ _ cc_2 Try.underlying23 rfl (by kernel_rfl) ?_)
      have a_3 := ac_2
      have b_3 := bc_2
      have c_3 := cc_2
      have inv_3 := invc_2
      refine (hcb _).mono ?_; rintro e w_3 ⟨rfl, hb_3⟩
      have ac_3 := a_3.below hb_3 a_3.lt
      have bc_3 := b_3.below hb_3 b_3.lt
      have cc_3 := c_3.below hb_3 c_3.lt
      have invc_3 := inv_3.call hb_3
      clear a_3 b_3 c_3 inv_3 hb_3
      go_wp2_with fail
      go_ret
      exact ⟨rfl, invc_3⟩
  · have hca := chk_no ha
    clear h ha
    go_enter Try.func7, Try.ntmps7
    go_wp2_with fail
    have a_1 := (((Wd.Blk.new w 23 #[.int .i64 a1, .int .i64 a2]).alloc (.cells #[.int .i64 b1, .int .i64 b2] 23)).alloc (.cells #[.int .i64 c1, .int .i64 c2] 23))
    have b_1 := ((blk_at (w.alloc (.cells #[.int .i64 a1, .int .i64 a2] 23)) 23 #[.int .i64 b1, .int .i64 b2] (sz1 _ _ rfl)).alloc (.cells #[.int .i64 c1, .int .i64 c2] 23))
    have c_1 := (blk_at ((w.alloc (.cells #[.int .i64 a1, .int .i64 a2] 23)).alloc (.cells #[.int .i64 b1, .int .i64 b2] 23)) 23 #[.int .i64 c1, .int .i64 c2] (sz1 _ _ (sz1 _ _ rfl)))
    have inv_1 := (((i0.alloc (.cells #[.int .i64 a1, .int .i64 a2] 23)).alloc (.cells #[.int .i64 b1, .int .i64 b2] 23)).alloc (.cells #[.int .i64 c1, .int .i64 c2] 23))
    refine (begins21_any _).mono ?_; rintro e w_1 ⟨rfl, hb_1⟩
    have ac_1 := a_1.below hb_1 a_1.lt
    have bc_1 := b_1.below hb_1 b_1.lt
    have cc_1 := c_1.below hb_1 c_1.lt
    have invc_1 := inv_1.call hb_1
    clear a_1 b_1 c_1 inv_1 hb_1
    go_wp2_with (first | refine wpList_row_g rfl 23 _ rfl _ rfl _ _ _ _ ac_1 Try.underlying23 rfl (by kernel_rfl) ?_ | refine wpList_row_g rfl 23 _ rfl _ rfl _ _ _ _ bc_1 Try.underlying23 rfl (by kernel_rfl) ?_ | refine wpList_row_g rfl 23 _ rfl _ rfl _ _ _ _ cc_1 Try.underlying23 rfl (by kernel_rfl) ?_)
    have a_2 := ac_1
    have b_2 := bc_1
    have c_2 := cc_1
    have inv_2 := invc_1
    refine (hca _).mono ?_; rintro e w_2 ⟨rfl, hb_2⟩
    have ac_2 := a_2.below hb_2 a_2.lt
    have bc_2 := b_2.below hb_2 b_2.lt
    have cc_2 := c_2.below hb_2 c_2.lt
    have invc_2 := inv_2.call hb_2
    clear a_2 b_2 c_2 inv_2 hb_2
    go_wp2_with fail
    go_ret
    exact ⟨rfl, invc_2⟩
set_option maxRecDepth 100000 in
set_option maxHeartbeats 8000000 in
theorem tri_good (a1 a2 b1 b2 c1 c2 : Int) (w : World) (ha : P2.ok ⟨a1, a2⟩ = true) (hb : P2.ok ⟨b1, b2⟩ = true) (hc : P2.ok ⟨c1, c2⟩ = true) :
    Calls Try.prog 7 #[.agg #[.int .i64 a1, .int .i64 a2], .agg #[.int .i64 b1, .int .i64 b2], .agg #[.int .i64 c1, .int .i64 c2]] w fun e w' => e = .returned (.bool true) ∧ Below w.heap.size w w' := by
  have i0 := BI.start w
  have hca := chk_ok ha; have hcb := chk_ok hb; have hcc := chk_ok hc
  have hm := mid_any ha hb
  have hmb := mid_any hb ha
  rw [mid_back] at hmb
  have hmo := mid_ok ha hb
  have hnear := fun p q => mid_near ha hb p q
  have b1' := dist_bd (mid ⟨a1, a2⟩ ⟨b1, b2⟩) ⟨a1, a2⟩
  have b2' := dist_bd ⟨a1, a2⟩ ⟨b1, b2⟩
  generalize mid ⟨a1, a2⟩ ⟨b1, b2⟩ = M at *
  obtain ⟨m1, m2⟩ := M
  simp only at hm hmb
  have hcm := chk_ok hmo
  have hnm := run_neq_pt m1 m2
  have pa := txt_ok ha; have pb := txt_ok hb; have pc := txt_ok hc
  have qa := pt_ok ha; have qb := pt_ok hb; have qc := pt_ok hc
  have hT := fun w => turn_at a1 a2 b1 b2 c1 c2 w
  have hB := fun w => bet_at a1 a2 b1 b2 c1 c2 w
  have ha' := P2.ok_iff.1 ha; have hb' := P2.ok_iff.1 hb
  simp only at ha' hb' hnear
  clear ha hb hc hmo
  generalize B (pT ⟨a1, a2⟩) = SA at *
  generalize B (pT ⟨b1, b2⟩) = SB at *
  generalize B (pT ⟨c1, c2⟩) = SC at *
  generalize turnV ⟨a1, a2⟩ ⟨b1, b2⟩ ⟨c1, c2⟩ = T at *
  generalize betV ⟨a1, a2⟩ ⟨b1, b2⟩ ⟨c1, c2⟩ = K at *
  generalize t1 : distV ⟨m1, m2⟩ ⟨a1, a2⟩ = D1 at *
  generalize t2 : distV ⟨a1, a2⟩ ⟨b1, b2⟩ = D2 at *
  obtain ⟨x1, x2⟩ := b1'
  obtain ⟨x3, x4⟩ := b2'
  have ws : IntKind.i64.wrap (a2 - b2) = a2 - b2 := by simp [IntKind.wrap, IntKind.bits, IntKind.signed]; omega
  have wd : IntKind.i64.wrap (D2 + 2) = D2 + 2 := by simp [IntKind.wrap, IntKind.bits, IntKind.signed]; omega
  by_cases hf : -648000 < a2 - b2 ∧ a2 - b2 < 648000
  · have hn := hnear hf.1 hf.2
    have f1 : decide (-648000 < a2 - b2) = true := by simpa using hf.1
    have f2 : decide (a2 - b2 < 648000) = true := by simpa using hf.2
    have f3 : decide (D2 + 2 < D1) = false := by simp; omega
    obtain ⟨hf1, hf2⟩ := hf
    clear hnear
    go_enter Try.func7, Try.ntmps7
    go_wp2_with fail
    have a_1 := (((Wd.Blk.new w 23 #[.int .i64 a1, .int .i64 a2]).alloc (.cells #[.int .i64 b1, .int .i64 b2] 23)).alloc (.cells #[.int .i64 c1, .int .i64 c2] 23))
    have b_1 := ((blk_at (w.alloc (.cells #[.int .i64 a1, .int .i64 a2] 23)) 23 #[.int .i64 b1, .int .i64 b2] (sz1 _ _ rfl)).alloc (.cells #[.int .i64 c1, .int .i64 c2] 23))
    have c_1 := (blk_at ((w.alloc (.cells #[.int .i64 a1, .int .i64 a2] 23)).alloc (.cells #[.int .i64 b1, .int .i64 b2] 23)) 23 #[.int .i64 c1, .int .i64 c2] (sz1 _ _ (sz1 _ _ rfl)))
    have inv_1 := (((i0.alloc (.cells #[.int .i64 a1, .int .i64 a2] 23)).alloc (.cells #[.int .i64 b1, .int .i64 b2] 23)).alloc (.cells #[.int .i64 c1, .int .i64 c2] 23))
    refine (begins21_any _).mono ?_; rintro e w_1 ⟨rfl, hb_1⟩
    have ac_1 := a_1.below hb_1 a_1.lt
    have bc_1 := b_1.below hb_1 b_1.lt
    have cc_1 := c_1.below hb_1 c_1.lt
    have invc_1 := inv_1.call hb_1
    clear a_1 b_1 c_1 inv_1 hb_1
    go_wp2_with (first | refine wpList_row_g rfl 23 _ rfl _ rfl _ _ _ _ ac_1 Try.underlying23 rfl (by kernel_rfl) ?_ | refine wpList_row_g rfl 23 _ rfl _ rfl _ _ _ _ bc_1 Try.underlying23 rfl (by kernel_rfl) ?_ | refine wpList_row_g rfl 23 _ rfl _ rfl _ _ _ _ cc_1 Try.underlying23 rfl (by kernel_rfl) ?_)
    have a_2 := ac_1
    have b_2 := bc_1
    have c_2 := cc_1
    have inv_2 := invc_1
    refine (hca _).mono ?_; rintro e w_2 ⟨rfl, hb_2⟩
    have ac_2 := a_2.below hb_2 a_2.lt
    have bc_2 := b_2.below hb_2 b_2.lt
    have cc_2 := c_2.below hb_2 c_2.lt
    have invc_2 := inv_2.call hb_2
    clear a_2 b_2 c_2 inv_2 hb_2
    go_wp2_with (first | refine wpList_row_g rfl 23 _ rfl _ rfl _ _ _ _ ac_2 Try.underlying23 rfl (by kernel_rfl) ?_ | refine wpList_row_g rfl 23 _ rfl _ rfl _ _ _ _ bc_2 Try.underlying23 rfl (by kernel_rfl) ?_ | refine wpList_row_g rfl 23 _ rfl _ rfl _ _ _ _ cc_2 Try.underlying23 rfl (by kernel_rfl) ?_)
    have a_3 := ac_2
    have b_3 := bc_2
    have c_3 := cc_2
    have inv_3 := invc_2
    refine (hcb _).mono ?_; rintro e w_3 ⟨rfl, hb_3⟩
    have ac_3 := a_3.below hb_3 a_3.lt
    have bc_3 := b_3.below hb_3 b_3.lt
    have cc_3 := c_3.below hb_3 c_3.lt
    have invc_3 := inv_3.call hb_3
    clear a_3 b_3 c_3 inv_3 hb_3
    go_wp2_with (first | refine wpList_row_g rfl 23 _ rfl _ rfl _ _ _ _ ac_3 Try.underlying23 rfl (by kernel_rfl) ?_ | refine wpList_row_g rfl 23 _ rfl _ rfl _ _ _ _ bc_3 Try.underlying23 rfl (by kernel_rfl) ?_ | refine wpList_row_g rfl 23 _ rfl _ rfl _ _ _ _ cc_3 Try.underlying23 rfl (by kernel_rfl) ?_)
    have a_4 := ac_3
    have b_4 := bc_3
    have c_4 := cc_3
    have inv_4 := invc_3
    refine (hcc _).mono ?_; rintro e w_4 ⟨rfl, hb_4⟩
    have ac_4 := a_4.below hb_4 a_4.lt
    have bc_4 := b_4.below hb_4 b_4.lt
    have cc_4 := c_4.below hb_4 c_4.lt
    have invc_4 := inv_4.call hb_4
    clear a_4 b_4 c_4 inv_4 hb_4
    go_wp2_with (first | refine wpList_row_g rfl 23 _ rfl _ rfl _ _ _ _ ac_4 Try.underlying23 rfl (by kernel_rfl) ?_ | refine wpList_row_g rfl 23 _ rfl _ rfl _ _ _ _ bc_4 Try.underlying23 rfl (by kernel_rfl) ?_ | refine wpList_row_g rfl 23 _ rfl _ rfl _ _ _ _ cc_4 Try.underlying23 rfl (by kernel_rfl) ?_)
    have a_5 := ac_4
    have b_5 := bc_4
    have c_5 := cc_4
    have inv_5 := invc_4
    refine (hm _).mono ?_; rintro e w_5 ⟨rfl, hb_5⟩
    have ac_5 := a_5.below hb_5 a_5.lt
    have bc_5 := b_5.below hb_5 b_5.lt
    have cc_5 := c_5.below hb_5 c_5.lt
    have invc_5 := inv_5.call hb_5
    clear a_5 b_5 c_5 inv_5 hb_5
    have a_6 := (ac_5.alloc (.cells #[.int .i64 m1, .int .i64 m2] 23))
    have b_6 := (bc_5.alloc (.cells #[.int .i64 m1, .int .i64 m2] 23))
    have c_6 := (cc_5.alloc (.cells #[.int .i64 m1, .int .i64 m2] 23))
    have m_6 := (Wd.Blk.new w_5 23 #[.int .i64 m1, .int .i64 m2])
    have inv_6 := (invc_5.alloc (.cells #[.int .i64 m1, .int .i64 m2] 23))
    have a_0 := a_6.cell 0; have a_1 := a_6.cell 1; simp at a_0 a_1
    have b_0 := b_6.cell 0; have b_1 := b_6.cell 1; simp at b_0 b_1
    have c_0 := c_6.cell 0; have c_1 := c_6.cell 1; simp at c_0 c_1
    have m_0 : ((w_5.alloc (.cells #[.int .i64 m1, .int .i64 m2] 23))).cell? ⟨w_5.heap.size, 0, none⟩ = some (.int .i64 m1) := m_6.cell 0
    have m_1 : ((w_5.alloc (.cells #[.int .i64 m1, .int .i64 m2] 23))).cell? ⟨w_5.heap.size, 1, none⟩ = some (.int .i64 m2) := m_6.cell 1
    go_upto_region 6 with (refine wpList_store_new rfl 23 _ _ rfl rfl w_5.heap.size #[.int .i64 m1, .int .i64 m2] rfl rfl _ #[.int .i64 0, .int .i64 0] w_5 rfl rfl rfl (by kernel_rfl) (by kernel_rfl) ?_)
    clear hca hcb hcc hm
    first | (go_region_held3 (fun w' => BI w w' ∧ Blk w' (w.heap.size) 23 #[.int .i64 a1, .int .i64 a2] ∧ Blk w' (w.heap.size + 1) 23 #[.int .i64 b1, .int .i64 b2] ∧ Blk w' (w.heap.size + 1 + 1) 23 #[.int .i64 c1, .int .i64 c2] ∧ Blk w' (w_5.heap.size) 23 #[.int .i64 m1, .int .i64 m2] ∧ w'.cell? ⟨w.heap.size, 0, none⟩ = some (.int .i64 a1) ∧ w'.cell? ⟨w.heap.size, 1, none⟩ = some (.int .i64 a2) ∧ w'.cell? ⟨w.heap.size + 1, 0, none⟩ = some (.int .i64 b1) ∧ w'.cell? ⟨w.heap.size + 1, 1, none⟩ = some (.int .i64 b2) ∧ w'.cell? ⟨w.heap.size + 1 + 1, 0, none⟩ = some (.int .i64 c1) ∧ w'.cell? ⟨w.heap.size + 1 + 1, 1, none⟩ = some (.int .i64 c2) ∧ w'.cell? ⟨w_5.heap.size, 0, none⟩ = some (.int .i64 m1) ∧ w'.cell? ⟨w_5.heap.size, 1, none⟩ = some (.int .i64 m2))
      (first | assumption | ((go_split_ands; (refine ⟨?_, ?_, ?_, ?_, ?_, ?_, ?_, ?_, ?_, ?_, ?_, ?_, ?_⟩ <;> first | assumption | exact cell_keep (by assumption) hbl | exact BI.call1 (by assumption) hbl | exact BI.below (w0 := w) (by assumption) hbl | exact inv_6.drew | exact a_6.drew | exact b_6.drew | exact c_6.drew | exact m_6.drew))))
      (first
        | (go_at_call 14; refine (hcm _).mono ?_; rintro e w' ⟨rfl, hbl⟩)
        | (go_at_call 32; refine (hmb _).mono ?_; rintro e w' ⟨rfl, hbl⟩))) | fail
    rename_i hH
    obtain ⟨j1, za, zb, zc, zm, _⟩ := hH
    obtain ⟨W1, hW⟩ := wname j1
    subst hW
    clear inv_6 a_6 b_6 c_6 m_6 a_0 a_1 b_0 b_1 c_0 c_1 m_0 m_1
    have a_0 := za.cell 0; have a_1 := za.cell 1; simp at a_0 a_1
    have b_0 := zb.cell 0; have b_1 := zb.cell 1; simp at b_0 b_1
    have c_0 := zc.cell 0; have c_1 := zc.cell 1; simp at c_0 c_1
    have m_0 := zm.cell 0; have m_1 := zm.cell 1; simp at m_0 m_1
    go_upto_region 9 with fail
    first | (go_region_held3 (fun w' => BI w w' ∧ Blk w' (w.heap.size) 23 #[.int .i64 a1, .int .i64 a2] ∧ Blk w' (w.heap.size + 1) 23 #[.int .i64 b1, .int .i64 b2] ∧ Blk w' (w.heap.size + 1 + 1) 23 #[.int .i64 c1, .int .i64 c2] ∧ Blk w' (w_5.heap.size) 23 #[.int .i64 m1, .int .i64 m2] ∧ w'.cell? ⟨w.heap.size, 0, none⟩ = some (.int .i64 a1) ∧ w'.cell? ⟨w.heap.size, 1, none⟩ = some (.int .i64 a2) ∧ w'.cell? ⟨w.heap.size + 1, 0, none⟩ = some (.int .i64 b1) ∧ w'.cell? ⟨w.heap.size + 1, 1, none⟩ = some (.int .i64 b2) ∧ w'.cell? ⟨w.heap.size + 1 + 1, 0, none⟩ = some (.int .i64 c1) ∧ w'.cell? ⟨w.heap.size + 1 + 1, 1, none⟩ = some (.int .i64 c2) ∧ w'.cell? ⟨w_5.heap.size, 0, none⟩ = some (.int .i64 m1) ∧ w'.cell? ⟨w_5.heap.size, 1, none⟩ = some (.int .i64 m2))
      (first | assumption | ((go_split_ands; (refine ⟨?_, ?_, ?_, ?_, ?_, ?_, ?_, ?_, ?_, ?_, ?_, ?_, ?_⟩ <;> first | assumption | exact cell_keep (by assumption) hbl | exact BI.call1 (by assumption) hbl | exact BI.below (w0 := w) (by assumption) hbl | exact j1.drew | exact za.drew | exact zb.drew | exact zc.drew | exact zm.drew))))
      (first
        | (go_at_call 17; refine (dist_at _ _ _ _ _).mono ?_; rintro e w' ⟨rfl, hbl⟩; first | rw [t1] | rw [t2]))) | fail
    rename_i hH
    obtain ⟨j2, ya, yb, yc, ym, _⟩ := hH
    obtain ⟨W2, hW⟩ := wname j2
    subst hW
    clear j1 za zb zc zm ym a_0 a_1 b_0 b_1 c_0 c_1 m_0 m_1
    have ga : w.heap.size < W2.heap.size := ya.lt; have gb : w.heap.size + 1 < W2.heap.size := yb.lt; have gc : w.heap.size + 1 + 1 < W2.heap.size := yc.lt
    have a_18 := (ya.alloc (.cells #[.int .i64 0, .int .i64 0, .int .i64 0, .int .i64 0, .int .i64 0, .int .i64 0] 46))
    have b_18 := (yb.alloc (.cells #[.int .i64 0, .int .i64 0, .int .i64 0, .int .i64 0, .int .i64 0, .int .i64 0] 46))
    have c_18 := (yc.alloc (.cells #[.int .i64 0, .int .i64 0, .int .i64 0, .int .i64 0, .int .i64 0, .int .i64 0] 46))
    have l_18 := (Wd.Blk.new W2 46 #[.int .i64 0, .int .i64 0, .int .i64 0, .int .i64 0, .int .i64 0, .int .i64 0])
    have inv_18 := (j2.alloc (.cells #[.int .i64 0, .int .i64 0, .int .i64 0, .int .i64 0, .int .i64 0, .int .i64 0] 46))
    go_wp2_with (first | refine wpList_row_g rfl 23 _ rfl _ rfl _ _ _ _ a_18 Try.underlying23 rfl (by kernel_rfl) ?_ | refine wpList_row_g rfl 23 _ rfl _ rfl _ _ _ _ b_18 Try.underlying23 rfl (by kernel_rfl) ?_ | refine wpList_row_g rfl 23 _ rfl _ rfl _ _ _ _ c_18 Try.underlying23 rfl (by kernel_rfl) ?_)
    go_loopw [69] (fun i wr => (i = .int .i64 0 ∧ BI w wr ∧ Blk wr (w.heap.size) 23 #[.int .i64 a1, .int .i64 a2] ∧ Blk wr (w.heap.size + 1) 23 #[.int .i64 b1, .int .i64 b2] ∧ Blk wr (w.heap.size + 1 + 1) 23 #[.int .i64 c1, .int .i64 c2] ∧ Blk wr W2.heap.size 46 #[.int .i64 0, .int .i64 0, .int .i64 0, .int .i64 0, .int .i64 0, .int .i64 0]) ∨ (i = .int .i64 1 ∧ BI w wr ∧ Blk wr (w.heap.size) 23 #[.int .i64 a1, .int .i64 a2] ∧ Blk wr (w.heap.size + 1) 23 #[.int .i64 b1, .int .i64 b2] ∧ Blk wr (w.heap.size + 1 + 1) 23 #[.int .i64 c1, .int .i64 c2] ∧ Blk wr W2.heap.size 46 #[.int .i64 a1, .int .i64 a2, .int .i64 0, .int .i64 0, .int .i64 0, .int .i64 0]) ∨ (i = .int .i64 2 ∧ BI w wr ∧ Blk wr (w.heap.size) 23 #[.int .i64 a1, .int .i64 a2] ∧ Blk wr (w.heap.size + 1) 23 #[.int .i64 b1, .int .i64 b2] ∧ Blk wr (w.heap.size + 1 + 1) 23 #[.int .i64 c1, .int .i64 c2] ∧ Blk wr W2.heap.size 46 #[.int .i64 a1, .int .i64 a2, .int .i64 b1, .int .i64 b2, .int .i64 0, .int .i64 0]) ∨ (i = .int .i64 3 ∧ BI w wr ∧ Blk wr (w.heap.size) 23 #[.int .i64 a1, .int .i64 a2] ∧ Blk wr (w.heap.size + 1) 23 #[.int .i64 b1, .int .i64 b2] ∧ Blk wr (w.heap.size + 1 + 1) 23 #[.int .i64 c1, .int .i64 c2] ∧ Blk wr W2.heap.size 46 #[.int .i64 a1, .int .i64 a2, .int .i64 b1, .int .i64 b2, .int .i64 c1, .int .i64 c2])) (fun i _ => 3 - (intOf i).toNat)
    case atStart => exact Or.inl ⟨rfl, inv_18, a_18, b_18, c_18, l_18⟩
    case round =>
      clear inv_18 a_18 b_18 c_18 l_18
      rcases hrel with ⟨rfl, hi, la, lb, lc, ll⟩ | ⟨rfl, hi, la, lb, lc, ll⟩ | ⟨rfl, hi, la, lb, lc, ll⟩ | ⟨rfl, hi, la, lb, lc, ll⟩
      · have xi : ∀ w, (Instr.index 46 (.agg #[.int .i64 a1, .int .i64 a2, .int .i64 b1, .int .i64 b2, .int .i64 c1, .int .i64 c2]) (.int .i64 0)).run Try.prog w = .ok (.agg #[.int .i64 a1, .int .i64 a2]) w := fun _ => by kernel_rfl
        go_wp2_with (first | refine wpList_store_new rfl 23 _ _ rfl rfl wr.heap.size #[.int .i64 a1, .int .i64 a2] rfl rfl _ #[.int .i64 0, .int .i64 0] wr rfl rfl rfl (by kernel_rfl) (by kernel_rfl) ?_ | refine wpList_row_g rfl 23 _ rfl _ rfl _ _ _ _ (Wd.Blk.new wr 23 #[.int .i64 a1, .int .i64 a2]) Try.underlying23 rfl (by kernel_rfl) ?_)
        have a_31 := (la.alloc (.cells #[.int .i64 a1, .int .i64 a2] 23))
        have b_31 := (lb.alloc (.cells #[.int .i64 a1, .int .i64 a2] 23))
        have c_31 := (lc.alloc (.cells #[.int .i64 a1, .int .i64 a2] 23))
        have l_31 := (ll.alloc (.cells #[.int .i64 a1, .int .i64 a2] 23))
        have inv_31 := (hi.alloc (.cells #[.int .i64 a1, .int .i64 a2] 23))
        refine (pa _).mono ?_; rintro e w_31 ⟨rfl, hb_31⟩
        have ac_31 := a_31.below hb_31 a_31.lt
        have bc_31 := b_31.below hb_31 b_31.lt
        have cc_31 := c_31.below hb_31 c_31.lt
        have lc_31 := l_31.below hb_31 l_31.lt
        have invc_31 := inv_31.call hb_31
        clear a_31 b_31 c_31 l_31 inv_31 hb_31
        go_wp2_with fail
        have a_32 := ac_31
        have b_32 := bc_31
        have c_32 := cc_31
        have l_32 := lc_31
        have inv_32 := invc_31
        refine (qa _).mono ?_; rintro e w_32 ⟨rfl, hb_32⟩
        have ac_32 := a_32.below hb_32 a_32.lt
        have bc_32 := b_32.below hb_32 b_32.lt
        have cc_32 := c_32.below hb_32 c_32.lt
        have lc_32 := l_32.below hb_32 l_32.lt
        have invc_32 := inv_32.call hb_32
        clear a_32 b_32 c_32 l_32 inv_32 hb_32
        go_wp2_with (first | refine wpList_store_new rfl 23 _ _ rfl rfl w_32.heap.size #[.int .i64 a1, .int .i64 a2] rfl rfl _ #[.int .i64 0, .int .i64 0] w_32 rfl rfl rfl (by kernel_rfl) (by kernel_rfl) ?_ | refine wpList_row_g rfl 23 _ rfl _ rfl _ _ _ _ (Wd.Blk.new w_32 23 #[.int .i64 a1, .int .i64 a2]) Try.underlying23 rfl (by kernel_rfl) ?_ | refine wpList_store_g rfl 23 _ _ rfl rfl W2.heap.size 0 #[.int .i64 a1, .int .i64 a2] #[.int .i64 a1, .int .i64 a2, .int .i64 0, .int .i64 0, .int .i64 0, .int .i64 0] rfl rfl _ _ (lc_32.alloc (.cells #[.int .i64 a1, .int .i64 a2] 23)) (by show 0 + 2 ≤ 6; decide) (by kernel_rfl) (by kernel_rfl) (by kernel_rfl) ?_)
        go_roundw
        case rel => exact Or.inr (Or.inl ⟨rfl, below_row (invc_32.alloc (.cells #[.int .i64 a1, .int .i64 a2] 23)).b (Nat.le_of_lt ga) _, Blk.rowFar (ac_32.alloc (.cells #[.int .i64 a1, .int .i64 a2] 23)) (Nat.ne_of_lt ga) _, Blk.rowFar (bc_32.alloc (.cells #[.int .i64 a1, .int .i64 a2] 23)) (Nat.ne_of_lt gb) _, Blk.rowFar (cc_32.alloc (.cells #[.int .i64 a1, .int .i64 a2] 23)) (Nat.ne_of_lt gc) _, Blk.row (lc_32.alloc (.cells #[.int .i64 a1, .int .i64 a2] 23)) _⟩)
        case measure => simp [intOf]
      · have xi : ∀ w, (Instr.index 46 (.agg #[.int .i64 a1, .int .i64 a2, .int .i64 b1, .int .i64 b2, .int .i64 c1, .int .i64 c2]) (.int .i64 1)).run Try.prog w = .ok (.agg #[.int .i64 b1, .int .i64 b2]) w := fun _ => by kernel_rfl
        go_wp2_with (first | refine wpList_store_new rfl 23 _ _ rfl rfl wr.heap.size #[.int .i64 b1, .int .i64 b2] rfl rfl _ #[.int .i64 0, .int .i64 0] wr rfl rfl rfl (by kernel_rfl) (by kernel_rfl) ?_ | refine wpList_row_g rfl 23 _ rfl _ rfl _ _ _ _ (Wd.Blk.new wr 23 #[.int .i64 b1, .int .i64 b2]) Try.underlying23 rfl (by kernel_rfl) ?_)
        have a_31 := (la.alloc (.cells #[.int .i64 b1, .int .i64 b2] 23))
        have b_31 := (lb.alloc (.cells #[.int .i64 b1, .int .i64 b2] 23))
        have c_31 := (lc.alloc (.cells #[.int .i64 b1, .int .i64 b2] 23))
        have l_31 := (ll.alloc (.cells #[.int .i64 b1, .int .i64 b2] 23))
        have inv_31 := (hi.alloc (.cells #[.int .i64 b1, .int .i64 b2] 23))
        refine (pb _).mono ?_; rintro e w_31 ⟨rfl, hb_31⟩
        have ac_31 := a_31.below hb_31 a_31.lt
        have bc_31 := b_31.below hb_31 b_31.lt
        have cc_31 := c_31.below hb_31 c_31.lt
        have lc_31 := l_31.below hb_31 l_31.lt
        have invc_31 := inv_31.call hb_31
        clear a_31 b_31 c_31 l_31 inv_31 hb_31
        go_wp2_with fail
        have a_32 := ac_31
        have b_32 := bc_31
        have c_32 := cc_31
        have l_32 := lc_31
        have inv_32 := invc_31
        refine (qb _).mono ?_; rintro e w_32 ⟨rfl, hb_32⟩
        have ac_32 := a_32.below hb_32 a_32.lt
        have bc_32 := b_32.below hb_32 b_32.lt
        have cc_32 := c_32.below hb_32 c_32.lt
        have lc_32 := l_32.below hb_32 l_32.lt
        have invc_32 := inv_32.call hb_32
        clear a_32 b_32 c_32 l_32 inv_32 hb_32
        go_wp2_with (first | refine wpList_store_new rfl 23 _ _ rfl rfl w_32.heap.size #[.int .i64 b1, .int .i64 b2] rfl rfl _ #[.int .i64 0, .int .i64 0] w_32 rfl rfl rfl (by kernel_rfl) (by kernel_rfl) ?_ | refine wpList_row_g rfl 23 _ rfl _ rfl _ _ _ _ (Wd.Blk.new w_32 23 #[.int .i64 b1, .int .i64 b2]) Try.underlying23 rfl (by kernel_rfl) ?_ | refine wpList_store_g rfl 23 _ _ rfl rfl W2.heap.size 2 #[.int .i64 b1, .int .i64 b2] #[.int .i64 a1, .int .i64 a2, .int .i64 b1, .int .i64 b2, .int .i64 0, .int .i64 0] rfl rfl _ _ (lc_32.alloc (.cells #[.int .i64 b1, .int .i64 b2] 23)) (by show 2 + 2 ≤ 6; decide) (by kernel_rfl) (by kernel_rfl) (by kernel_rfl) ?_)
        go_roundw
        case rel => exact Or.inr (Or.inr (Or.inl ⟨rfl, below_row (invc_32.alloc (.cells #[.int .i64 b1, .int .i64 b2] 23)).b (Nat.le_of_lt ga) _, Blk.rowFar (ac_32.alloc (.cells #[.int .i64 b1, .int .i64 b2] 23)) (Nat.ne_of_lt ga) _, Blk.rowFar (bc_32.alloc (.cells #[.int .i64 b1, .int .i64 b2] 23)) (Nat.ne_of_lt gb) _, Blk.rowFar (cc_32.alloc (.cells #[.int .i64 b1, .int .i64 b2] 23)) (Nat.ne_of_lt gc) _, Blk.row (lc_32.alloc (.cells #[.int .i64 b1, .int .i64 b2] 23)) _⟩))
        case measure => simp [intOf]
      · have xi : ∀ w, (Instr.index 46 (.agg #[.int .i64 a1, .int .i64 a2, .int .i64 b1, .int .i64 b2, .int .i64 c1, .int .i64 c2]) (.int .i64 2)).run Try.prog w = .ok (.agg #[.int .i64 c1, .int .i64 c2]) w := fun _ => by kernel_rfl
        go_wp2_with (first | refine wpList_store_new rfl 23 _ _ rfl rfl wr.heap.size #[.int .i64 c1, .int .i64 c2] rfl rfl _ #[.int .i64 0, .int .i64 0] wr rfl rfl rfl (by kernel_rfl) (by kernel_rfl) ?_ | refine wpList_row_g rfl 23 _ rfl _ rfl _ _ _ _ (Wd.Blk.new wr 23 #[.int .i64 c1, .int .i64 c2]) Try.underlying23 rfl (by kernel_rfl) ?_)
        have a_31 := (la.alloc (.cells #[.int .i64 c1, .int .i64 c2] 23))
        have b_31 := (lb.alloc (.cells #[.int .i64 c1, .int .i64 c2] 23))
        have c_31 := (lc.alloc (.cells #[.int .i64 c1, .int .i64 c2] 23))
        have l_31 := (ll.alloc (.cells #[.int .i64 c1, .int .i64 c2] 23))
        have inv_31 := (hi.alloc (.cells #[.int .i64 c1, .int .i64 c2] 23))
        refine (pc _).mono ?_; rintro e w_31 ⟨rfl, hb_31⟩
        have ac_31 := a_31.below hb_31 a_31.lt
        have bc_31 := b_31.below hb_31 b_31.lt
        have cc_31 := c_31.below hb_31 c_31.lt
        have lc_31 := l_31.below hb_31 l_31.lt
        have invc_31 := inv_31.call hb_31
        clear a_31 b_31 c_31 l_31 inv_31 hb_31
        go_wp2_with fail
        have a_32 := ac_31
        have b_32 := bc_31
        have c_32 := cc_31
        have l_32 := lc_31
        have inv_32 := invc_31
        refine (qc _).mono ?_; rintro e w_32 ⟨rfl, hb_32⟩
        have ac_32 := a_32.below hb_32 a_32.lt
        have bc_32 := b_32.below hb_32 b_32.lt
        have cc_32 := c_32.below hb_32 c_32.lt
        have lc_32 := l_32.below hb_32 l_32.lt
        have invc_32 := inv_32.call hb_32
        clear a_32 b_32 c_32 l_32 inv_32 hb_32
        go_wp2_with (first | refine wpList_store_new rfl 23 _ _ rfl rfl w_32.heap.size #[.int .i64 c1, .int .i64 c2] rfl rfl _ #[.int .i64 0, .int .i64 0] w_32 rfl rfl rfl (by kernel_rfl) (by kernel_rfl) ?_ | refine wpList_row_g rfl 23 _ rfl _ rfl _ _ _ _ (Wd.Blk.new w_32 23 #[.int .i64 c1, .int .i64 c2]) Try.underlying23 rfl (by kernel_rfl) ?_ | refine wpList_store_g rfl 23 _ _ rfl rfl W2.heap.size 4 #[.int .i64 c1, .int .i64 c2] #[.int .i64 a1, .int .i64 a2, .int .i64 b1, .int .i64 b2, .int .i64 c1, .int .i64 c2] rfl rfl _ _ (lc_32.alloc (.cells #[.int .i64 c1, .int .i64 c2] 23)) (by show 4 + 2 ≤ 6; decide) (by kernel_rfl) (by kernel_rfl) (by kernel_rfl) ?_)
        go_roundw
        case rel => exact Or.inr (Or.inr (Or.inr (⟨rfl, below_row (invc_32.alloc (.cells #[.int .i64 c1, .int .i64 c2] 23)).b (Nat.le_of_lt ga) _, Blk.rowFar (ac_32.alloc (.cells #[.int .i64 c1, .int .i64 c2] 23)) (Nat.ne_of_lt ga) _, Blk.rowFar (bc_32.alloc (.cells #[.int .i64 c1, .int .i64 c2] 23)) (Nat.ne_of_lt gb) _, Blk.rowFar (cc_32.alloc (.cells #[.int .i64 c1, .int .i64 c2] 23)) (Nat.ne_of_lt gc) _, Blk.row (lc_32.alloc (.cells #[.int .i64 c1, .int .i64 c2] 23)) _⟩)))
        case measure => simp [intOf]
      · have a_0 := la.cell 0; have a_1 := la.cell 1; simp at a_0 a_1
        have b_0 := lb.cell 0; have b_1 := lb.cell 1; simp at b_0 b_1
        have c_0 := lc.cell 0; have c_1 := lc.cell 1; simp at c_0 c_1
        have l_0 := ll.cell 0; have l_1 := ll.cell 1; have l_2 := ll.cell 2; have l_3 := ll.cell 3; have l_4 := ll.cell 4; have l_5 := ll.cell 5; simp at l_0 l_1 l_2 l_3 l_4 l_5
        go_upto_region 21 with fail
        first | (go_region_held3 (fun w' => BI w w' ∧ Blk w' (w.heap.size) 23 #[.int .i64 a1, .int .i64 a2] ∧ Blk w' (w.heap.size + 1) 23 #[.int .i64 b1, .int .i64 b2] ∧ Blk w' (w.heap.size + 1 + 1) 23 #[.int .i64 c1, .int .i64 c2] ∧ Blk w' (W2.heap.size) 46 #[.int .i64 a1, .int .i64 a2, .int .i64 b1, .int .i64 b2, .int .i64 c1, .int .i64 c2] ∧ w'.cell? ⟨w.heap.size, 0, none⟩ = some (.int .i64 a1) ∧ w'.cell? ⟨w.heap.size, 1, none⟩ = some (.int .i64 a2) ∧ w'.cell? ⟨w.heap.size + 1, 0, none⟩ = some (.int .i64 b1) ∧ w'.cell? ⟨w.heap.size + 1, 1, none⟩ = some (.int .i64 b2) ∧ w'.cell? ⟨w.heap.size + 1 + 1, 0, none⟩ = some (.int .i64 c1) ∧ w'.cell? ⟨w.heap.size + 1 + 1, 1, none⟩ = some (.int .i64 c2) ∧ w'.cell? ⟨W2.heap.size, 0, none⟩ = some (.int .i64 a1) ∧ w'.cell? ⟨W2.heap.size, 1, none⟩ = some (.int .i64 a2) ∧ w'.cell? ⟨W2.heap.size, 2, none⟩ = some (.int .i64 b1) ∧ w'.cell? ⟨W2.heap.size, 3, none⟩ = some (.int .i64 b2) ∧ w'.cell? ⟨W2.heap.size, 4, none⟩ = some (.int .i64 c1) ∧ w'.cell? ⟨W2.heap.size, 5, none⟩ = some (.int .i64 c2))
          (first | assumption | ((go_split_ands; (refine ⟨?_, ?_, ?_, ?_, ?_, ?_, ?_, ?_, ?_, ?_, ?_, ?_, ?_, ?_, ?_, ?_, ?_⟩ <;> first | assumption | exact cell_keep (by assumption) hbl | exact BI.call1 (by assumption) hbl | exact BI.below (w0 := w) (by assumption) hbl | exact hi.drew | exact la.drew | exact lb.drew | exact lc.drew | exact ll.drew))))
          (first
            | (go_at_call 15; refine (hT _).mono ?_; rintro e w' ⟨rfl, hbl⟩)
            | (go_at_call 16; refine (hB _).mono ?_; rintro e w' ⟨rfl, hbl⟩))) | fail
        rename_i hH
        obtain ⟨j3, ua, ub, uc, ul, _⟩ := hH
        obtain ⟨W3, hW⟩ := wname j3
        subst hW
        go_wp2
        go_ret
        exact ⟨rfl, j3⟩
  · clear hnear
    have hf' : a2 - b2 ≤ -648000 ∨ (-648000 < a2 - b2 ∧ 648000 ≤ a2 - b2) := by omega
    clear hf
    rcases hf' with hf1 | ⟨hf1, hf2⟩
    · have f1 : decide (-648000 < a2 - b2) = false := by simpa using hf1
      go_enter Try.func7, Try.ntmps7
      go_wp2_with fail
      have a_1 := (((Wd.Blk.new w 23 #[.int .i64 a1, .int .i64 a2]).alloc (.cells #[.int .i64 b1, .int .i64 b2] 23)).alloc (.cells #[.int .i64 c1, .int .i64 c2] 23))
      have b_1 := ((blk_at (w.alloc (.cells #[.int .i64 a1, .int .i64 a2] 23)) 23 #[.int .i64 b1, .int .i64 b2] (sz1 _ _ rfl)).alloc (.cells #[.int .i64 c1, .int .i64 c2] 23))
      have c_1 := (blk_at ((w.alloc (.cells #[.int .i64 a1, .int .i64 a2] 23)).alloc (.cells #[.int .i64 b1, .int .i64 b2] 23)) 23 #[.int .i64 c1, .int .i64 c2] (sz1 _ _ (sz1 _ _ rfl)))
      have inv_1 := (((i0.alloc (.cells #[.int .i64 a1, .int .i64 a2] 23)).alloc (.cells #[.int .i64 b1, .int .i64 b2] 23)).alloc (.cells #[.int .i64 c1, .int .i64 c2] 23))
      refine (begins21_any _).mono ?_; rintro e w_1 ⟨rfl, hb_1⟩
      have ac_1 := a_1.below hb_1 a_1.lt
      have bc_1 := b_1.below hb_1 b_1.lt
      have cc_1 := c_1.below hb_1 c_1.lt
      have invc_1 := inv_1.call hb_1
      clear a_1 b_1 c_1 inv_1 hb_1
      go_wp2_with (first | refine wpList_row_g rfl 23 _ rfl _ rfl _ _ _ _ ac_1 Try.underlying23 rfl (by kernel_rfl) ?_ | refine wpList_row_g rfl 23 _ rfl _ rfl _ _ _ _ bc_1 Try.underlying23 rfl (by kernel_rfl) ?_ | refine wpList_row_g rfl 23 _ rfl _ rfl _ _ _ _ cc_1 Try.underlying23 rfl (by kernel_rfl) ?_)
      have a_2 := ac_1
      have b_2 := bc_1
      have c_2 := cc_1
      have inv_2 := invc_1
      refine (hca _).mono ?_; rintro e w_2 ⟨rfl, hb_2⟩
      have ac_2 := a_2.below hb_2 a_2.lt
      have bc_2 := b_2.below hb_2 b_2.lt
      have cc_2 := c_2.below hb_2 c_2.lt
      have invc_2 := inv_2.call hb_2
      clear a_2 b_2 c_2 inv_2 hb_2
      go_wp2_with (first | refine wpList_row_g rfl 23 _ rfl _ rfl _ _ _ _ ac_2 Try.underlying23 rfl (by kernel_rfl) ?_ | refine wpList_row_g rfl 23 _ rfl _ rfl _ _ _ _ bc_2 Try.underlying23 rfl (by kernel_rfl) ?_ | refine wpList_row_g rfl 23 _ rfl _ rfl _ _ _ _ cc_2 Try.underlying23 rfl (by kernel_rfl) ?_)
      have a_3 := ac_2
      have b_3 := bc_2
      have c_3 := cc_2
      have inv_3 := invc_2
      refine (hcb _).mono ?_; rintro e w_3 ⟨rfl, hb_3⟩
      have ac_3 := a_3.below hb_3 a_3.lt
      have bc_3 := b_3.below hb_3 b_3.lt
      have cc_3 := c_3.below hb_3 c_3.lt
      have invc_3 := inv_3.call hb_3
      clear a_3 b_3 c_3 inv_3 hb_3
      go_wp2_with (first | refine wpList_row_g rfl 23 _ rfl _ rfl _ _ _ _ ac_3 Try.underlying23 rfl (by kernel_rfl) ?_ | refine wpList_row_g rfl 23 _ rfl _ rfl _ _ _ _ bc_3 Try.underlying23 rfl (by kernel_rfl) ?_ | refine wpList_row_g rfl 23 _ rfl _ rfl _ _ _ _ cc_3 Try.underlying23 rfl (by kernel_rfl) ?_)
      have a_4 := ac_3
      have b_4 := bc_3
      have c_4 := cc_3
      have inv_4 := invc_3
      refine (hcc _).mono ?_; rintro e w_4 ⟨rfl, hb_4⟩
      have ac_4 := a_4.below hb_4 a_4.lt
      have bc_4 := b_4.below hb_4 b_4.lt
      have cc_4 := c_4.below hb_4 c_4.lt
      have invc_4 := inv_4.call hb_4
      clear a_4 b_4 c_4 inv_4 hb_4
      go_wp2_with (first | refine wpList_row_g rfl 23 _ rfl _ rfl _ _ _ _ ac_4 Try.underlying23 rfl (by kernel_rfl) ?_ | refine wpList_row_g rfl 23 _ rfl _ rfl _ _ _ _ bc_4 Try.underlying23 rfl (by kernel_rfl) ?_ | refine wpList_row_g rfl 23 _ rfl _ rfl _ _ _ _ cc_4 Try.underlying23 rfl (by kernel_rfl) ?_)
      have a_5 := ac_4
      have b_5 := bc_4
      have c_5 := cc_4
      have inv_5 := invc_4
      refine (hm _).mono ?_; rintro e w_5 ⟨rfl, hb_5⟩
      have ac_5 := a_5.below hb_5 a_5.lt
      have bc_5 := b_5.below hb_5 b_5.lt
      have cc_5 := c_5.below hb_5 c_5.lt
      have invc_5 := inv_5.call hb_5
      clear a_5 b_5 c_5 inv_5 hb_5
      have a_6 := (ac_5.alloc (.cells #[.int .i64 m1, .int .i64 m2] 23))
      have b_6 := (bc_5.alloc (.cells #[.int .i64 m1, .int .i64 m2] 23))
      have c_6 := (cc_5.alloc (.cells #[.int .i64 m1, .int .i64 m2] 23))
      have m_6 := (Wd.Blk.new w_5 23 #[.int .i64 m1, .int .i64 m2])
      have inv_6 := (invc_5.alloc (.cells #[.int .i64 m1, .int .i64 m2] 23))
      have a_0 := a_6.cell 0; have a_1 := a_6.cell 1; simp at a_0 a_1
      have b_0 := b_6.cell 0; have b_1 := b_6.cell 1; simp at b_0 b_1
      have c_0 := c_6.cell 0; have c_1 := c_6.cell 1; simp at c_0 c_1
      have m_0 : ((w_5.alloc (.cells #[.int .i64 m1, .int .i64 m2] 23))).cell? ⟨w_5.heap.size, 0, none⟩ = some (.int .i64 m1) := m_6.cell 0
      have m_1 : ((w_5.alloc (.cells #[.int .i64 m1, .int .i64 m2] 23))).cell? ⟨w_5.heap.size, 1, none⟩ = some (.int .i64 m2) := m_6.cell 1
      go_upto_region 6 with (refine wpList_store_new rfl 23 _ _ rfl rfl w_5.heap.size #[.int .i64 m1, .int .i64 m2] rfl rfl _ #[.int .i64 0, .int .i64 0] w_5 rfl rfl rfl (by kernel_rfl) (by kernel_rfl) ?_)
      clear hca hcb hcc hm
      first | (go_region_held3 (fun w' => BI w w' ∧ Blk w' (w.heap.size) 23 #[.int .i64 a1, .int .i64 a2] ∧ Blk w' (w.heap.size + 1) 23 #[.int .i64 b1, .int .i64 b2] ∧ Blk w' (w.heap.size + 1 + 1) 23 #[.int .i64 c1, .int .i64 c2] ∧ Blk w' (w_5.heap.size) 23 #[.int .i64 m1, .int .i64 m2] ∧ w'.cell? ⟨w.heap.size, 0, none⟩ = some (.int .i64 a1) ∧ w'.cell? ⟨w.heap.size, 1, none⟩ = some (.int .i64 a2) ∧ w'.cell? ⟨w.heap.size + 1, 0, none⟩ = some (.int .i64 b1) ∧ w'.cell? ⟨w.heap.size + 1, 1, none⟩ = some (.int .i64 b2) ∧ w'.cell? ⟨w.heap.size + 1 + 1, 0, none⟩ = some (.int .i64 c1) ∧ w'.cell? ⟨w.heap.size + 1 + 1, 1, none⟩ = some (.int .i64 c2) ∧ w'.cell? ⟨w_5.heap.size, 0, none⟩ = some (.int .i64 m1) ∧ w'.cell? ⟨w_5.heap.size, 1, none⟩ = some (.int .i64 m2))
        (first | assumption | ((go_split_ands; (refine ⟨?_, ?_, ?_, ?_, ?_, ?_, ?_, ?_, ?_, ?_, ?_, ?_, ?_⟩ <;> first | assumption | exact cell_keep (by assumption) hbl | exact BI.call1 (by assumption) hbl | exact BI.below (w0 := w) (by assumption) hbl | exact inv_6.drew | exact a_6.drew | exact b_6.drew | exact c_6.drew | exact m_6.drew))))
        (first
          | (go_at_call 14; refine (hcm _).mono ?_; rintro e w' ⟨rfl, hbl⟩)
          | (go_at_call 32; refine (hmb _).mono ?_; rintro e w' ⟨rfl, hbl⟩))) | fail
      rename_i hH
      obtain ⟨j1, za, zb, zc, zm, _⟩ := hH
      obtain ⟨W1, hW⟩ := wname j1
      subst hW
      clear inv_6 a_6 b_6 c_6 m_6 a_0 a_1 b_0 b_1 c_0 c_1 m_0 m_1
      have a_0 := za.cell 0; have a_1 := za.cell 1; simp at a_0 a_1
      have b_0 := zb.cell 0; have b_1 := zb.cell 1; simp at b_0 b_1
      have c_0 := zc.cell 0; have c_1 := zc.cell 1; simp at c_0 c_1
      have m_0 := zm.cell 0; have m_1 := zm.cell 1; simp at m_0 m_1
      go_upto_region 9 with fail
      go_quiet (fail)
      rename_i nq
      have j2 : BI w (W1.drewN nq) := j1.call (Joins.below_draws _ _ _); have ya := za.drewN nq; have yb := zb.drewN nq; have yc := zc.drewN nq; have ym := zm.drewN nq
      generalize W1.drewN nq = W2 at *
      clear j1 za zb zc zm ym a_0 a_1 b_0 b_1 c_0 c_1 m_0 m_1
      have ga : w.heap.size < W2.heap.size := ya.lt; have gb : w.heap.size + 1 < W2.heap.size := yb.lt; have gc : w.heap.size + 1 + 1 < W2.heap.size := yc.lt
      have a_18 := (ya.alloc (.cells #[.int .i64 0, .int .i64 0, .int .i64 0, .int .i64 0, .int .i64 0, .int .i64 0] 46))
      have b_18 := (yb.alloc (.cells #[.int .i64 0, .int .i64 0, .int .i64 0, .int .i64 0, .int .i64 0, .int .i64 0] 46))
      have c_18 := (yc.alloc (.cells #[.int .i64 0, .int .i64 0, .int .i64 0, .int .i64 0, .int .i64 0, .int .i64 0] 46))
      have l_18 := (Wd.Blk.new W2 46 #[.int .i64 0, .int .i64 0, .int .i64 0, .int .i64 0, .int .i64 0, .int .i64 0])
      have inv_18 := (j2.alloc (.cells #[.int .i64 0, .int .i64 0, .int .i64 0, .int .i64 0, .int .i64 0, .int .i64 0] 46))
      go_wp2_with (first | refine wpList_row_g rfl 23 _ rfl _ rfl _ _ _ _ a_18 Try.underlying23 rfl (by kernel_rfl) ?_ | refine wpList_row_g rfl 23 _ rfl _ rfl _ _ _ _ b_18 Try.underlying23 rfl (by kernel_rfl) ?_ | refine wpList_row_g rfl 23 _ rfl _ rfl _ _ _ _ c_18 Try.underlying23 rfl (by kernel_rfl) ?_)
      go_loopw [69] (fun i wr => (i = .int .i64 0 ∧ BI w wr ∧ Blk wr (w.heap.size) 23 #[.int .i64 a1, .int .i64 a2] ∧ Blk wr (w.heap.size + 1) 23 #[.int .i64 b1, .int .i64 b2] ∧ Blk wr (w.heap.size + 1 + 1) 23 #[.int .i64 c1, .int .i64 c2] ∧ Blk wr W2.heap.size 46 #[.int .i64 0, .int .i64 0, .int .i64 0, .int .i64 0, .int .i64 0, .int .i64 0]) ∨ (i = .int .i64 1 ∧ BI w wr ∧ Blk wr (w.heap.size) 23 #[.int .i64 a1, .int .i64 a2] ∧ Blk wr (w.heap.size + 1) 23 #[.int .i64 b1, .int .i64 b2] ∧ Blk wr (w.heap.size + 1 + 1) 23 #[.int .i64 c1, .int .i64 c2] ∧ Blk wr W2.heap.size 46 #[.int .i64 a1, .int .i64 a2, .int .i64 0, .int .i64 0, .int .i64 0, .int .i64 0]) ∨ (i = .int .i64 2 ∧ BI w wr ∧ Blk wr (w.heap.size) 23 #[.int .i64 a1, .int .i64 a2] ∧ Blk wr (w.heap.size + 1) 23 #[.int .i64 b1, .int .i64 b2] ∧ Blk wr (w.heap.size + 1 + 1) 23 #[.int .i64 c1, .int .i64 c2] ∧ Blk wr W2.heap.size 46 #[.int .i64 a1, .int .i64 a2, .int .i64 b1, .int .i64 b2, .int .i64 0, .int .i64 0]) ∨ (i = .int .i64 3 ∧ BI w wr ∧ Blk wr (w.heap.size) 23 #[.int .i64 a1, .int .i64 a2] ∧ Blk wr (w.heap.size + 1) 23 #[.int .i64 b1, .int .i64 b2] ∧ Blk wr (w.heap.size + 1 + 1) 23 #[.int .i64 c1, .int .i64 c2] ∧ Blk wr W2.heap.size 46 #[.int .i64 a1, .int .i64 a2, .int .i64 b1, .int .i64 b2, .int .i64 c1, .int .i64 c2])) (fun i _ => 3 - (intOf i).toNat)
      case atStart => exact Or.inl ⟨rfl, inv_18, a_18, b_18, c_18, l_18⟩
      case round =>
        clear inv_18 a_18 b_18 c_18 l_18
        rcases hrel with ⟨rfl, hi, la, lb, lc, ll⟩ | ⟨rfl, hi, la, lb, lc, ll⟩ | ⟨rfl, hi, la, lb, lc, ll⟩ | ⟨rfl, hi, la, lb, lc, ll⟩
        · have xi : ∀ w, (Instr.index 46 (.agg #[.int .i64 a1, .int .i64 a2, .int .i64 b1, .int .i64 b2, .int .i64 c1, .int .i64 c2]) (.int .i64 0)).run Try.prog w = .ok (.agg #[.int .i64 a1, .int .i64 a2]) w := fun _ => by kernel_rfl
          go_wp2_with (first | refine wpList_store_new rfl 23 _ _ rfl rfl wr.heap.size #[.int .i64 a1, .int .i64 a2] rfl rfl _ #[.int .i64 0, .int .i64 0] wr rfl rfl rfl (by kernel_rfl) (by kernel_rfl) ?_ | refine wpList_row_g rfl 23 _ rfl _ rfl _ _ _ _ (Wd.Blk.new wr 23 #[.int .i64 a1, .int .i64 a2]) Try.underlying23 rfl (by kernel_rfl) ?_)
          have a_31 := (la.alloc (.cells #[.int .i64 a1, .int .i64 a2] 23))
          have b_31 := (lb.alloc (.cells #[.int .i64 a1, .int .i64 a2] 23))
          have c_31 := (lc.alloc (.cells #[.int .i64 a1, .int .i64 a2] 23))
          have l_31 := (ll.alloc (.cells #[.int .i64 a1, .int .i64 a2] 23))
          have inv_31 := (hi.alloc (.cells #[.int .i64 a1, .int .i64 a2] 23))
          refine (pa _).mono ?_; rintro e w_31 ⟨rfl, hb_31⟩
          have ac_31 := a_31.below hb_31 a_31.lt
          have bc_31 := b_31.below hb_31 b_31.lt
          have cc_31 := c_31.below hb_31 c_31.lt
          have lc_31 := l_31.below hb_31 l_31.lt
          have invc_31 := inv_31.call hb_31
          clear a_31 b_31 c_31 l_31 inv_31 hb_31
          go_wp2_with fail
          have a_32 := ac_31
          have b_32 := bc_31
          have c_32 := cc_31
          have l_32 := lc_31
          have inv_32 := invc_31
          refine (qa _).mono ?_; rintro e w_32 ⟨rfl, hb_32⟩
          have ac_32 := a_32.below hb_32 a_32.lt
          have bc_32 := b_32.below hb_32 b_32.lt
          have cc_32 := c_32.below hb_32 c_32.lt
          have lc_32 := l_32.below hb_32 l_32.lt
          have invc_32 := inv_32.call hb_32
          clear a_32 b_32 c_32 l_32 inv_32 hb_32
          go_wp2_with (first | refine wpList_store_new rfl 23 _ _ rfl rfl w_32.heap.size #[.int .i64 a1, .int .i64 a2] rfl rfl _ #[.int .i64 0, .int .i64 0] w_32 rfl rfl rfl (by kernel_rfl) (by kernel_rfl) ?_ | refine wpList_row_g rfl 23 _ rfl _ rfl _ _ _ _ (Wd.Blk.new w_32 23 #[.int .i64 a1, .int .i64 a2]) Try.underlying23 rfl (by kernel_rfl) ?_ | refine wpList_store_g rfl 23 _ _ rfl rfl W2.heap.size 0 #[.int .i64 a1, .int .i64 a2] #[.int .i64 a1, .int .i64 a2, .int .i64 0, .int .i64 0, .int .i64 0, .int .i64 0] rfl rfl _ _ (lc_32.alloc (.cells #[.int .i64 a1, .int .i64 a2] 23)) (by show 0 + 2 ≤ 6; decide) (by kernel_rfl) (by kernel_rfl) (by kernel_rfl) ?_)
          go_roundw
          case rel => exact Or.inr (Or.inl ⟨rfl, below_row (invc_32.alloc (.cells #[.int .i64 a1, .int .i64 a2] 23)).b (Nat.le_of_lt ga) _, Blk.rowFar (ac_32.alloc (.cells #[.int .i64 a1, .int .i64 a2] 23)) (Nat.ne_of_lt ga) _, Blk.rowFar (bc_32.alloc (.cells #[.int .i64 a1, .int .i64 a2] 23)) (Nat.ne_of_lt gb) _, Blk.rowFar (cc_32.alloc (.cells #[.int .i64 a1, .int .i64 a2] 23)) (Nat.ne_of_lt gc) _, Blk.row (lc_32.alloc (.cells #[.int .i64 a1, .int .i64 a2] 23)) _⟩)
          case measure => simp [intOf]
        · have xi : ∀ w, (Instr.index 46 (.agg #[.int .i64 a1, .int .i64 a2, .int .i64 b1, .int .i64 b2, .int .i64 c1, .int .i64 c2]) (.int .i64 1)).run Try.prog w = .ok (.agg #[.int .i64 b1, .int .i64 b2]) w := fun _ => by kernel_rfl
          go_wp2_with (first | refine wpList_store_new rfl 23 _ _ rfl rfl wr.heap.size #[.int .i64 b1, .int .i64 b2] rfl rfl _ #[.int .i64 0, .int .i64 0] wr rfl rfl rfl (by kernel_rfl) (by kernel_rfl) ?_ | refine wpList_row_g rfl 23 _ rfl _ rfl _ _ _ _ (Wd.Blk.new wr 23 #[.int .i64 b1, .int .i64 b2]) Try.underlying23 rfl (by kernel_rfl) ?_)
          have a_31 := (la.alloc (.cells #[.int .i64 b1, .int .i64 b2] 23))
          have b_31 := (lb.alloc (.cells #[.int .i64 b1, .int .i64 b2] 23))
          have c_31 := (lc.alloc (.cells #[.int .i64 b1, .int .i64 b2] 23))
          have l_31 := (ll.alloc (.cells #[.int .i64 b1, .int .i64 b2] 23))
          have inv_31 := (hi.alloc (.cells #[.int .i64 b1, .int .i64 b2] 23))
          refine (pb _).mono ?_; rintro e w_31 ⟨rfl, hb_31⟩
          have ac_31 := a_31.below hb_31 a_31.lt
          have bc_31 := b_31.below hb_31 b_31.lt
          have cc_31 := c_31.below hb_31 c_31.lt
          have lc_31 := l_31.below hb_31 l_31.lt
          have invc_31 := inv_31.call hb_31
          clear a_31 b_31 c_31 l_31 inv_31 hb_31
          go_wp2_with fail
          have a_32 := ac_31
          have b_32 := bc_31
          have c_32 := cc_31
          have l_32 := lc_31
          have inv_32 := invc_31
          refine (qb _).mono ?_; rintro e w_32 ⟨rfl, hb_32⟩
          have ac_32 := a_32.below hb_32 a_32.lt
          have bc_32 := b_32.below hb_32 b_32.lt
          have cc_32 := c_32.below hb_32 c_32.lt
          have lc_32 := l_32.below hb_32 l_32.lt
          have invc_32 := inv_32.call hb_32
          clear a_32 b_32 c_32 l_32 inv_32 hb_32
          go_wp2_with (first | refine wpList_store_new rfl 23 _ _ rfl rfl w_32.heap.size #[.int .i64 b1, .int .i64 b2] rfl rfl _ #[.int .i64 0, .int .i64 0] w_32 rfl rfl rfl (by kernel_rfl) (by kernel_rfl) ?_ | refine wpList_row_g rfl 23 _ rfl _ rfl _ _ _ _ (Wd.Blk.new w_32 23 #[.int .i64 b1, .int .i64 b2]) Try.underlying23 rfl (by kernel_rfl) ?_ | refine wpList_store_g rfl 23 _ _ rfl rfl W2.heap.size 2 #[.int .i64 b1, .int .i64 b2] #[.int .i64 a1, .int .i64 a2, .int .i64 b1, .int .i64 b2, .int .i64 0, .int .i64 0] rfl rfl _ _ (lc_32.alloc (.cells #[.int .i64 b1, .int .i64 b2] 23)) (by show 2 + 2 ≤ 6; decide) (by kernel_rfl) (by kernel_rfl) (by kernel_rfl) ?_)
          go_roundw
          case rel => exact Or.inr (Or.inr (Or.inl ⟨rfl, below_row (invc_32.alloc (.cells #[.int .i64 b1, .int .i64 b2] 23)).b (Nat.le_of_lt ga) _, Blk.rowFar (ac_32.alloc (.cells #[.int .i64 b1, .int .i64 b2] 23)) (Nat.ne_of_lt ga) _, Blk.rowFar (bc_32.alloc (.cells #[.int .i64 b1, .int .i64 b2] 23)) (Nat.ne_of_lt gb) _, Blk.rowFar (cc_32.alloc (.cells #[.int .i64 b1, .int .i64 b2] 23)) (Nat.ne_of_lt gc) _, Blk.row (lc_32.alloc (.cells #[.int .i64 b1, .int .i64 b2] 23)) _⟩))
          case measure => simp [intOf]
        · have xi : ∀ w, (Instr.index 46 (.agg #[.int .i64 a1, .int .i64 a2, .int .i64 b1, .int .i64 b2, .int .i64 c1, .int .i64 c2]) (.int .i64 2)).run Try.prog w = .ok (.agg #[.int .i64 c1, .int .i64 c2]) w := fun _ => by kernel_rfl
          go_wp2_with (first | refine wpList_store_new rfl 23 _ _ rfl rfl wr.heap.size #[.int .i64 c1, .int .i64 c2] rfl rfl _ #[.int .i64 0, .int .i64 0] wr rfl rfl rfl (by kernel_rfl) (by kernel_rfl) ?_ | refine wpList_row_g rfl 23 _ rfl _ rfl _ _ _ _ (Wd.Blk.new wr 23 #[.int .i64 c1, .int .i64 c2]) Try.underlying23 rfl (by kernel_rfl) ?_)
          have a_31 := (la.alloc (.cells #[.int .i64 c1, .int .i64 c2] 23))
          have b_31 := (lb.alloc (.cells #[.int .i64 c1, .int .i64 c2] 23))
          have c_31 := (lc.alloc (.cells #[.int .i64 c1, .int .i64 c2] 23))
          have l_31 := (ll.alloc (.cells #[.int .i64 c1, .int .i64 c2] 23))
          have inv_31 := (hi.alloc (.cells #[.int .i64 c1, .int .i64 c2] 23))
          refine (pc _).mono ?_; rintro e w_31 ⟨rfl, hb_31⟩
          have ac_31 := a_31.below hb_31 a_31.lt
          have bc_31 := b_31.below hb_31 b_31.lt
          have cc_31 := c_31.below hb_31 c_31.lt
          have lc_31 := l_31.below hb_31 l_31.lt
          have invc_31 := inv_31.call hb_31
          clear a_31 b_31 c_31 l_31 inv_31 hb_31
          go_wp2_with fail
          have a_32 := ac_31
          have b_32 := bc_31
          have c_32 := cc_31
          have l_32 := lc_31
          have inv_32 := invc_31
          refine (qc _).mono ?_; rintro e w_32 ⟨rfl, hb_32⟩
          have ac_32 := a_32.below hb_32 a_32.lt
          have bc_32 := b_32.below hb_32 b_32.lt
          have cc_32 := c_32.below hb_32 c_32.lt
          have lc_32 := l_32.below hb_32 l_32.lt
          have invc_32 := inv_32.call hb_32
          clear a_32 b_32 c_32 l_32 inv_32 hb_32
          go_wp2_with (first | refine wpList_store_new rfl 23 _ _ rfl rfl w_32.heap.size #[.int .i64 c1, .int .i64 c2] rfl rfl _ #[.int .i64 0, .int .i64 0] w_32 rfl rfl rfl (by kernel_rfl) (by kernel_rfl) ?_ | refine wpList_row_g rfl 23 _ rfl _ rfl _ _ _ _ (Wd.Blk.new w_32 23 #[.int .i64 c1, .int .i64 c2]) Try.underlying23 rfl (by kernel_rfl) ?_ | refine wpList_store_g rfl 23 _ _ rfl rfl W2.heap.size 4 #[.int .i64 c1, .int .i64 c2] #[.int .i64 a1, .int .i64 a2, .int .i64 b1, .int .i64 b2, .int .i64 c1, .int .i64 c2] rfl rfl _ _ (lc_32.alloc (.cells #[.int .i64 c1, .int .i64 c2] 23)) (by show 4 + 2 ≤ 6; decide) (by kernel_rfl) (by kernel_rfl) (by kernel_rfl) ?_)
          go_roundw
          case rel => exact Or.inr (Or.inr (Or.inr (⟨rfl, below_row (invc_32.alloc (.cells #[.int .i64 c1, .int .i64 c2] 23)).b (Nat.le_of_lt ga) _, Blk.rowFar (ac_32.alloc (.cells #[.int .i64 c1, .int .i64 c2] 23)) (Nat.ne_of_lt ga) _, Blk.rowFar (bc_32.alloc (.cells #[.int .i64 c1, .int .i64 c2] 23)) (Nat.ne_of_lt gb) _, Blk.rowFar (cc_32.alloc (.cells #[.int .i64 c1, .int .i64 c2] 23)) (Nat.ne_of_lt gc) _, Blk.row (lc_32.alloc (.cells #[.int .i64 c1, .int .i64 c2] 23)) _⟩)))
          case measure => simp [intOf]
        · have a_0 := la.cell 0; have a_1 := la.cell 1; simp at a_0 a_1
          have b_0 := lb.cell 0; have b_1 := lb.cell 1; simp at b_0 b_1
          have c_0 := lc.cell 0; have c_1 := lc.cell 1; simp at c_0 c_1
          have l_0 := ll.cell 0; have l_1 := ll.cell 1; have l_2 := ll.cell 2; have l_3 := ll.cell 3; have l_4 := ll.cell 4; have l_5 := ll.cell 5; simp at l_0 l_1 l_2 l_3 l_4 l_5
          go_upto_region 21 with fail
          first | (go_region_held3 (fun w' => BI w w' ∧ Blk w' (w.heap.size) 23 #[.int .i64 a1, .int .i64 a2] ∧ Blk w' (w.heap.size + 1) 23 #[.int .i64 b1, .int .i64 b2] ∧ Blk w' (w.heap.size + 1 + 1) 23 #[.int .i64 c1, .int .i64 c2] ∧ Blk w' (W2.heap.size) 46 #[.int .i64 a1, .int .i64 a2, .int .i64 b1, .int .i64 b2, .int .i64 c1, .int .i64 c2] ∧ w'.cell? ⟨w.heap.size, 0, none⟩ = some (.int .i64 a1) ∧ w'.cell? ⟨w.heap.size, 1, none⟩ = some (.int .i64 a2) ∧ w'.cell? ⟨w.heap.size + 1, 0, none⟩ = some (.int .i64 b1) ∧ w'.cell? ⟨w.heap.size + 1, 1, none⟩ = some (.int .i64 b2) ∧ w'.cell? ⟨w.heap.size + 1 + 1, 0, none⟩ = some (.int .i64 c1) ∧ w'.cell? ⟨w.heap.size + 1 + 1, 1, none⟩ = some (.int .i64 c2) ∧ w'.cell? ⟨W2.heap.size, 0, none⟩ = some (.int .i64 a1) ∧ w'.cell? ⟨W2.heap.size, 1, none⟩ = some (.int .i64 a2) ∧ w'.cell? ⟨W2.heap.size, 2, none⟩ = some (.int .i64 b1) ∧ w'.cell? ⟨W2.heap.size, 3, none⟩ = some (.int .i64 b2) ∧ w'.cell? ⟨W2.heap.size, 4, none⟩ = some (.int .i64 c1) ∧ w'.cell? ⟨W2.heap.size, 5, none⟩ = some (.int .i64 c2))
            (first | assumption | ((go_split_ands; (refine ⟨?_, ?_, ?_, ?_, ?_, ?_, ?_, ?_, ?_, ?_, ?_, ?_, ?_, ?_, ?_, ?_, ?_⟩ <;> first | assumption | exact cell_keep (by assumption) hbl | exact BI.call1 (by assumption) hbl | exact BI.below (w0 := w) (by assumption) hbl | exact hi.drew | exact la.drew | exact lb.drew | exact lc.drew | exact ll.drew))))
            (first
              | (go_at_call 15; refine (hT _).mono ?_; rintro e w' ⟨rfl, hbl⟩)
              | (go_at_call 16; refine (hB _).mono ?_; rintro e w' ⟨rfl, hbl⟩))) | fail
          rename_i hH
          obtain ⟨j3, ua, ub, uc, ul, _⟩ := hH
          obtain ⟨W3, hW⟩ := wname j3
          subst hW
          go_wp2
          go_ret
          exact ⟨rfl, j3⟩
    · have f1 : decide (-648000 < a2 - b2) = true := by simpa using hf1
      have f2 : decide (a2 - b2 < 648000) = false := by simpa using hf2
      go_enter Try.func7, Try.ntmps7
      go_wp2_with fail
      have a_1 := (((Wd.Blk.new w 23 #[.int .i64 a1, .int .i64 a2]).alloc (.cells #[.int .i64 b1, .int .i64 b2] 23)).alloc (.cells #[.int .i64 c1, .int .i64 c2] 23))
      have b_1 := ((blk_at (w.alloc (.cells #[.int .i64 a1, .int .i64 a2] 23)) 23 #[.int .i64 b1, .int .i64 b2] (sz1 _ _ rfl)).alloc (.cells #[.int .i64 c1, .int .i64 c2] 23))
      have c_1 := (blk_at ((w.alloc (.cells #[.int .i64 a1, .int .i64 a2] 23)).alloc (.cells #[.int .i64 b1, .int .i64 b2] 23)) 23 #[.int .i64 c1, .int .i64 c2] (sz1 _ _ (sz1 _ _ rfl)))
      have inv_1 := (((i0.alloc (.cells #[.int .i64 a1, .int .i64 a2] 23)).alloc (.cells #[.int .i64 b1, .int .i64 b2] 23)).alloc (.cells #[.int .i64 c1, .int .i64 c2] 23))
      refine (begins21_any _).mono ?_; rintro e w_1 ⟨rfl, hb_1⟩
      have ac_1 := a_1.below hb_1 a_1.lt
      have bc_1 := b_1.below hb_1 b_1.lt
      have cc_1 := c_1.below hb_1 c_1.lt
      have invc_1 := inv_1.call hb_1
      clear a_1 b_1 c_1 inv_1 hb_1
      go_wp2_with (first | refine wpList_row_g rfl 23 _ rfl _ rfl _ _ _ _ ac_1 Try.underlying23 rfl (by kernel_rfl) ?_ | refine wpList_row_g rfl 23 _ rfl _ rfl _ _ _ _ bc_1 Try.underlying23 rfl (by kernel_rfl) ?_ | refine wpList_row_g rfl 23 _ rfl _ rfl _ _ _ _ cc_1 Try.underlying23 rfl (by kernel_rfl) ?_)
      have a_2 := ac_1
      have b_2 := bc_1
      have c_2 := cc_1
      have inv_2 := invc_1
      refine (hca _).mono ?_; rintro e w_2 ⟨rfl, hb_2⟩
      have ac_2 := a_2.below hb_2 a_2.lt
      have bc_2 := b_2.below hb_2 b_2.lt
      have cc_2 := c_2.below hb_2 c_2.lt
      have invc_2 := inv_2.call hb_2
      clear a_2 b_2 c_2 inv_2 hb_2
      go_wp2_with (first | refine wpList_row_g rfl 23 _ rfl _ rfl _ _ _ _ ac_2 Try.underlying23 rfl (by kernel_rfl) ?_ | refine wpList_row_g rfl 23 _ rfl _ rfl _ _ _ _ bc_2 Try.underlying23 rfl (by kernel_rfl) ?_ | refine wpList_row_g rfl 23 _ rfl _ rfl _ _ _ _ cc_2 Try.underlying23 rfl (by kernel_rfl) ?_)
      have a_3 := ac_2
      have b_3 := bc_2
      have c_3 := cc_2
      have inv_3 := invc_2
      refine (hcb _).mono ?_; rintro e w_3 ⟨rfl, hb_3⟩
      have ac_3 := a_3.below hb_3 a_3.lt
      have bc_3 := b_3.below hb_3 b_3.lt
      have cc_3 := c_3.below hb_3 c_3.lt
      have invc_3 := inv_3.call hb_3
      clear a_3 b_3 c_3 inv_3 hb_3
      go_wp2_with (first | refine wpList_row_g rfl 23 _ rfl _ rfl _ _ _ _ ac_3 Try.underlying23 rfl (by kernel_rfl) ?_ | refine wpList_row_g rfl 23 _ rfl _ rfl _ _ _ _ bc_3 Try.underlying23 rfl (by kernel_rfl) ?_ | refine wpList_row_g rfl 23 _ rfl _ rfl _ _ _ _ cc_3 Try.underlying23 rfl (by kernel_rfl) ?_)
      have a_4 := ac_3
      have b_4 := bc_3
      have c_4 := cc_3
      have inv_4 := invc_3
      refine (hcc _).mono ?_; rintro e w_4 ⟨rfl, hb_4⟩
      have ac_4 := a_4.below hb_4 a_4.lt
      have bc_4 := b_4.below hb_4 b_4.lt
      have cc_4 := c_4.below hb_4 c_4.lt
      have invc_4 := inv_4.call hb_4
      clear a_4 b_4 c_4 inv_4 hb_4
      go_wp2_with (first | refine wpList_row_g rfl 23 _ rfl _ rfl _ _ _ _ ac_4 Try.underlying23 rfl (by kernel_rfl) ?_ | refine wpList_row_g rfl 23 _ rfl _ rfl _ _ _ _ bc_4 Try.underlying23 rfl (by kernel_rfl) ?_ | refine wpList_row_g rfl 23 _ rfl _ rfl _ _ _ _ cc_4 Try.underlying23 rfl (by kernel_rfl) ?_)
      have a_5 := ac_4
      have b_5 := bc_4
      have c_5 := cc_4
      have inv_5 := invc_4
      refine (hm _).mono ?_; rintro e w_5 ⟨rfl, hb_5⟩
      have ac_5 := a_5.below hb_5 a_5.lt
      have bc_5 := b_5.below hb_5 b_5.lt
      have cc_5 := c_5.below hb_5 c_5.lt
      have invc_5 := inv_5.call hb_5
      clear a_5 b_5 c_5 inv_5 hb_5
      have a_6 := (ac_5.alloc (.cells #[.int .i64 m1, .int .i64 m2] 23))
      have b_6 := (bc_5.alloc (.cells #[.int .i64 m1, .int .i64 m2] 23))
      have c_6 := (cc_5.alloc (.cells #[.int .i64 m1, .int .i64 m2] 23))
      have m_6 := (Wd.Blk.new w_5 23 #[.int .i64 m1, .int .i64 m2])
      have inv_6 := (invc_5.alloc (.cells #[.int .i64 m1, .int .i64 m2] 23))
      have a_0 := a_6.cell 0; have a_1 := a_6.cell 1; simp at a_0 a_1
      have b_0 := b_6.cell 0; have b_1 := b_6.cell 1; simp at b_0 b_1
      have c_0 := c_6.cell 0; have c_1 := c_6.cell 1; simp at c_0 c_1
      have m_0 : ((w_5.alloc (.cells #[.int .i64 m1, .int .i64 m2] 23))).cell? ⟨w_5.heap.size, 0, none⟩ = some (.int .i64 m1) := m_6.cell 0
      have m_1 : ((w_5.alloc (.cells #[.int .i64 m1, .int .i64 m2] 23))).cell? ⟨w_5.heap.size, 1, none⟩ = some (.int .i64 m2) := m_6.cell 1
      go_upto_region 6 with (refine wpList_store_new rfl 23 _ _ rfl rfl w_5.heap.size #[.int .i64 m1, .int .i64 m2] rfl rfl _ #[.int .i64 0, .int .i64 0] w_5 rfl rfl rfl (by kernel_rfl) (by kernel_rfl) ?_)
      clear hca hcb hcc hm
      first | (go_region_held3 (fun w' => BI w w' ∧ Blk w' (w.heap.size) 23 #[.int .i64 a1, .int .i64 a2] ∧ Blk w' (w.heap.size + 1) 23 #[.int .i64 b1, .int .i64 b2] ∧ Blk w' (w.heap.size + 1 + 1) 23 #[.int .i64 c1, .int .i64 c2] ∧ Blk w' (w_5.heap.size) 23 #[.int .i64 m1, .int .i64 m2] ∧ w'.cell? ⟨w.heap.size, 0, none⟩ = some (.int .i64 a1) ∧ w'.cell? ⟨w.heap.size, 1, none⟩ = some (.int .i64 a2) ∧ w'.cell? ⟨w.heap.size + 1, 0, none⟩ = some (.int .i64 b1) ∧ w'.cell? ⟨w.heap.size + 1, 1, none⟩ = some (.int .i64 b2) ∧ w'.cell? ⟨w.heap.size + 1 + 1, 0, none⟩ = some (.int .i64 c1) ∧ w'.cell? ⟨w.heap.size + 1 + 1, 1, none⟩ = some (.int .i64 c2) ∧ w'.cell? ⟨w_5.heap.size, 0, none⟩ = some (.int .i64 m1) ∧ w'.cell? ⟨w_5.heap.size, 1, none⟩ = some (.int .i64 m2))
        (first | assumption | ((go_split_ands; (refine ⟨?_, ?_, ?_, ?_, ?_, ?_, ?_, ?_, ?_, ?_, ?_, ?_, ?_⟩ <;> first | assumption | exact cell_keep (by assumption) hbl | exact BI.call1 (by assumption) hbl | exact BI.below (w0 := w) (by assumption) hbl | exact inv_6.drew | exact a_6.drew | exact b_6.drew | exact c_6.drew | exact m_6.drew))))
        (first
          | (go_at_call 14; refine (hcm _).mono ?_; rintro e w' ⟨rfl, hbl⟩)
          | (go_at_call 32; refine (hmb _).mono ?_; rintro e w' ⟨rfl, hbl⟩))) | fail
      rename_i hH
      obtain ⟨j1, za, zb, zc, zm, _⟩ := hH
      obtain ⟨W1, hW⟩ := wname j1
      subst hW
      clear inv_6 a_6 b_6 c_6 m_6 a_0 a_1 b_0 b_1 c_0 c_1 m_0 m_1
      have a_0 := za.cell 0; have a_1 := za.cell 1; simp at a_0 a_1
      have b_0 := zb.cell 0; have b_1 := zb.cell 1; simp at b_0 b_1
      have c_0 := zc.cell 0; have c_1 := zc.cell 1; simp at c_0 c_1
      have m_0 := zm.cell 0; have m_1 := zm.cell 1; simp at m_0 m_1
      go_upto_region 9 with fail
      go_quiet (fail)
      rename_i nq
      have j2 : BI w (W1.drewN nq) := j1.call (Joins.below_draws _ _ _); have ya := za.drewN nq; have yb := zb.drewN nq; have yc := zc.drewN nq; have ym := zm.drewN nq
      generalize W1.drewN nq = W2 at *
      clear j1 za zb zc zm ym a_0 a_1 b_0 b_1 c_0 c_1 m_0 m_1
      have ga : w.heap.size < W2.heap.size := ya.lt; have gb : w.heap.size + 1 < W2.heap.size := yb.lt; have gc : w.heap.size + 1 + 1 < W2.heap.size := yc.lt
      have a_18 := (ya.alloc (.cells #[.int .i64 0, .int .i64 0, .int .i64 0, .int .i64 0, .int .i64 0, .int .i64 0] 46))
      have b_18 := (yb.alloc (.cells #[.int .i64 0, .int .i64 0, .int .i64 0, .int .i64 0, .int .i64 0, .int .i64 0] 46))
      have c_18 := (yc.alloc (.cells #[.int .i64 0, .int .i64 0, .int .i64 0, .int .i64 0, .int .i64 0, .int .i64 0] 46))
      have l_18 := (Wd.Blk.new W2 46 #[.int .i64 0, .int .i64 0, .int .i64 0, .int .i64 0, .int .i64 0, .int .i64 0])
      have inv_18 := (j2.alloc (.cells #[.int .i64 0, .int .i64 0, .int .i64 0, .int .i64 0, .int .i64 0, .int .i64 0] 46))
      go_wp2_with (first | refine wpList_row_g rfl 23 _ rfl _ rfl _ _ _ _ a_18 Try.underlying23 rfl (by kernel_rfl) ?_ | refine wpList_row_g rfl 23 _ rfl _ rfl _ _ _ _ b_18 Try.underlying23 rfl (by kernel_rfl) ?_ | refine wpList_row_g rfl 23 _ rfl _ rfl _ _ _ _ c_18 Try.underlying23 rfl (by kernel_rfl) ?_)
      go_loopw [69] (fun i wr => (i = .int .i64 0 ∧ BI w wr ∧ Blk wr (w.heap.size) 23 #[.int .i64 a1, .int .i64 a2] ∧ Blk wr (w.heap.size + 1) 23 #[.int .i64 b1, .int .i64 b2] ∧ Blk wr (w.heap.size + 1 + 1) 23 #[.int .i64 c1, .int .i64 c2] ∧ Blk wr W2.heap.size 46 #[.int .i64 0, .int .i64 0, .int .i64 0, .int .i64 0, .int .i64 0, .int .i64 0]) ∨ (i = .int .i64 1 ∧ BI w wr ∧ Blk wr (w.heap.size) 23 #[.int .i64 a1, .int .i64 a2] ∧ Blk wr (w.heap.size + 1) 23 #[.int .i64 b1, .int .i64 b2] ∧ Blk wr (w.heap.size + 1 + 1) 23 #[.int .i64 c1, .int .i64 c2] ∧ Blk wr W2.heap.size 46 #[.int .i64 a1, .int .i64 a2, .int .i64 0, .int .i64 0, .int .i64 0, .int .i64 0]) ∨ (i = .int .i64 2 ∧ BI w wr ∧ Blk wr (w.heap.size) 23 #[.int .i64 a1, .int .i64 a2] ∧ Blk wr (w.heap.size + 1) 23 #[.int .i64 b1, .int .i64 b2] ∧ Blk wr (w.heap.size + 1 + 1) 23 #[.int .i64 c1, .int .i64 c2] ∧ Blk wr W2.heap.size 46 #[.int .i64 a1, .int .i64 a2, .int .i64 b1, .int .i64 b2, .int .i64 0, .int .i64 0]) ∨ (i = .int .i64 3 ∧ BI w wr ∧ Blk wr (w.heap.size) 23 #[.int .i64 a1, .int .i64 a2] ∧ Blk wr (w.heap.size + 1) 23 #[.int .i64 b1, .int .i64 b2] ∧ Blk wr (w.heap.size + 1 + 1) 23 #[.int .i64 c1, .int .i64 c2] ∧ Blk wr W2.heap.size 46 #[.int .i64 a1, .int .i64 a2, .int .i64 b1, .int .i64 b2, .int .i64 c1, .int .i64 c2])) (fun i _ => 3 - (intOf i).toNat)
      case atStart => exact Or.inl ⟨rfl, inv_18, a_18, b_18, c_18, l_18⟩
      case round =>
        clear inv_18 a_18 b_18 c_18 l_18
        rcases hrel with ⟨rfl, hi, la, lb, lc, ll⟩ | ⟨rfl, hi, la, lb, lc, ll⟩ | ⟨rfl, hi, la, lb, lc, ll⟩ | ⟨rfl, hi, la, lb, lc, ll⟩
        · have xi : ∀ w, (Instr.index 46 (.agg #[.int .i64 a1, .int .i64 a2, .int .i64 b1, .int .i64 b2, .int .i64 c1, .int .i64 c2]) (.int .i64 0)).run Try.prog w = .ok (.agg #[.int .i64 a1, .int .i64 a2]) w := fun _ => by kernel_rfl
          go_wp2_with (first | refine wpList_store_new rfl 23 _ _ rfl rfl wr.heap.size #[.int .i64 a1, .int .i64 a2] rfl rfl _ #[.int .i64 0, .int .i64 0] wr rfl rfl rfl (by kernel_rfl) (by kernel_rfl) ?_ | refine wpList_row_g rfl 23 _ rfl _ rfl _ _ _ _ (Wd.Blk.new wr 23 #[.int .i64 a1, .int .i64 a2]) Try.underlying23 rfl (by kernel_rfl) ?_)
          have a_31 := (la.alloc (.cells #[.int .i64 a1, .int .i64 a2] 23))
          have b_31 := (lb.alloc (.cells #[.int .i64 a1, .int .i64 a2] 23))
          have c_31 := (lc.alloc (.cells #[.int .i64 a1, .int .i64 a2] 23))
          have l_31 := (ll.alloc (.cells #[.int .i64 a1, .int .i64 a2] 23))
          have inv_31 := (hi.alloc (.cells #[.int .i64 a1, .int .i64 a2] 23))
          refine (pa _).mono ?_; rintro e w_31 ⟨rfl, hb_31⟩
          have ac_31 := a_31.below hb_31 a_31.lt
          have bc_31 := b_31.below hb_31 b_31.lt
          have cc_31 := c_31.below hb_31 c_31.lt
          have lc_31 := l_31.below hb_31 l_31.lt
          have invc_31 := inv_31.call hb_31
          clear a_31 b_31 c_31 l_31 inv_31 hb_31
          go_wp2_with fail
          have a_32 := ac_31
          have b_32 := bc_31
          have c_32 := cc_31
          have l_32 := lc_31
          have inv_32 := invc_31
          refine (qa _).mono ?_; rintro e w_32 ⟨rfl, hb_32⟩
          have ac_32 := a_32.below hb_32 a_32.lt
          have bc_32 := b_32.below hb_32 b_32.lt
          have cc_32 := c_32.below hb_32 c_32.lt
          have lc_32 := l_32.below hb_32 l_32.lt
          have invc_32 := inv_32.call hb_32
          clear a_32 b_32 c_32 l_32 inv_32 hb_32
          go_wp2_with (first | refine wpList_store_new rfl 23 _ _ rfl rfl w_32.heap.size #[.int .i64 a1, .int .i64 a2] rfl rfl _ #[.int .i64 0, .int .i64 0] w_32 rfl rfl rfl (by kernel_rfl) (by kernel_rfl) ?_ | refine wpList_row_g rfl 23 _ rfl _ rfl _ _ _ _ (Wd.Blk.new w_32 23 #[.int .i64 a1, .int .i64 a2]) Try.underlying23 rfl (by kernel_rfl) ?_ | refine wpList_store_g rfl 23 _ _ rfl rfl W2.heap.size 0 #[.int .i64 a1, .int .i64 a2] #[.int .i64 a1, .int .i64 a2, .int .i64 0, .int .i64 0, .int .i64 0, .int .i64 0] rfl rfl _ _ (lc_32.alloc (.cells #[.int .i64 a1, .int .i64 a2] 23)) (by show 0 + 2 ≤ 6; decide) (by kernel_rfl) (by kernel_rfl) (by kernel_rfl) ?_)
          go_roundw
          case rel => exact Or.inr (Or.inl ⟨rfl, below_row (invc_32.alloc (.cells #[.int .i64 a1, .int .i64 a2] 23)).b (Nat.le_of_lt ga) _, Blk.rowFar (ac_32.alloc (.cells #[.int .i64 a1, .int .i64 a2] 23)) (Nat.ne_of_lt ga) _, Blk.rowFar (bc_32.alloc (.cells #[.int .i64 a1, .int .i64 a2] 23)) (Nat.ne_of_lt gb) _, Blk.rowFar (cc_32.alloc (.cells #[.int .i64 a1, .int .i64 a2] 23)) (Nat.ne_of_lt gc) _, Blk.row (lc_32.alloc (.cells #[.int .i64 a1, .int .i64 a2] 23)) _⟩)
          case measure => simp [intOf]
        · have xi : ∀ w, (Instr.index 46 (.agg #[.int .i64 a1, .int .i64 a2, .int .i64 b1, .int .i64 b2, .int .i64 c1, .int .i64 c2]) (.int .i64 1)).run Try.prog w = .ok (.agg #[.int .i64 b1, .int .i64 b2]) w := fun _ => by kernel_rfl
          go_wp2_with (first | refine wpList_store_new rfl 23 _ _ rfl rfl wr.heap.size #[.int .i64 b1, .int .i64 b2] rfl rfl _ #[.int .i64 0, .int .i64 0] wr rfl rfl rfl (by kernel_rfl) (by kernel_rfl) ?_ | refine wpList_row_g rfl 23 _ rfl _ rfl _ _ _ _ (Wd.Blk.new wr 23 #[.int .i64 b1, .int .i64 b2]) Try.underlying23 rfl (by kernel_rfl) ?_)
          have a_31 := (la.alloc (.cells #[.int .i64 b1, .int .i64 b2] 23))
          have b_31 := (lb.alloc (.cells #[.int .i64 b1, .int .i64 b2] 23))
          have c_31 := (lc.alloc (.cells #[.int .i64 b1, .int .i64 b2] 23))
          have l_31 := (ll.alloc (.cells #[.int .i64 b1, .int .i64 b2] 23))
          have inv_31 := (hi.alloc (.cells #[.int .i64 b1, .int .i64 b2] 23))
          refine (pb _).mono ?_; rintro e w_31 ⟨rfl, hb_31⟩
          have ac_31 := a_31.below hb_31 a_31.lt
          have bc_31 := b_31.below hb_31 b_31.lt
          have cc_31 := c_31.below hb_31 c_31.lt
          have lc_31 := l_31.below hb_31 l_31.lt
          have invc_31 := inv_31.call hb_31
          clear a_31 b_31 c_31 l_31 inv_31 hb_31
          go_wp2_with fail
          have a_32 := ac_31
          have b_32 := bc_31
          have c_32 := cc_31
          have l_32 := lc_31
          have inv_32 := invc_31
          refine (qb _).mono ?_; rintro e w_32 ⟨rfl, hb_32⟩
          have ac_32 := a_32.below hb_32 a_32.lt
          have bc_32 := b_32.below hb_32 b_32.lt
          have cc_32 := c_32.below hb_32 c_32.lt
          have lc_32 := l_32.below hb_32 l_32.lt
          have invc_32 := inv_32.call hb_32
          clear a_32 b_32 c_32 l_32 inv_32 hb_32
          go_wp2_with (first | refine wpList_store_new rfl 23 _ _ rfl rfl w_32.heap.size #[.int .i64 b1, .int .i64 b2] rfl rfl _ #[.int .i64 0, .int .i64 0] w_32 rfl rfl rfl (by kernel_rfl) (by kernel_rfl) ?_ | refine wpList_row_g rfl 23 _ rfl _ rfl _ _ _ _ (Wd.Blk.new w_32 23 #[.int .i64 b1, .int .i64 b2]) Try.underlying23 rfl (by kernel_rfl) ?_ | refine wpList_store_g rfl 23 _ _ rfl rfl W2.heap.size 2 #[.int .i64 b1, .int .i64 b2] #[.int .i64 a1, .int .i64 a2, .int .i64 b1, .int .i64 b2, .int .i64 0, .int .i64 0] rfl rfl _ _ (lc_32.alloc (.cells #[.int .i64 b1, .int .i64 b2] 23)) (by show 2 + 2 ≤ 6; decide) (by kernel_rfl) (by kernel_rfl) (by kernel_rfl) ?_)
          go_roundw
          case rel => exact Or.inr (Or.inr (Or.inl ⟨rfl, below_row (invc_32.alloc (.cells #[.int .i64 b1, .int .i64 b2] 23)).b (Nat.le_of_lt ga) _, Blk.rowFar (ac_32.alloc (.cells #[.int .i64 b1, .int .i64 b2] 23)) (Nat.ne_of_lt ga) _, Blk.rowFar (bc_32.alloc (.cells #[.int .i64 b1, .int .i64 b2] 23)) (Nat.ne_of_lt gb) _, Blk.rowFar (cc_32.alloc (.cells #[.int .i64 b1, .int .i64 b2] 23)) (Nat.ne_of_lt gc) _, Blk.row (lc_32.alloc (.cells #[.int .i64 b1, .int .i64 b2] 23)) _⟩))
          case measure => simp [intOf]
        · have xi : ∀ w, (Instr.index 46 (.agg #[.int .i64 a1, .int .i64 a2, .int .i64 b1, .int .i64 b2, .int .i64 c1, .int .i64 c2]) (.int .i64 2)).run Try.prog w = .ok (.agg #[.int .i64 c1, .int .i64 c2]) w := fun _ => by kernel_rfl
          go_wp2_with (first | refine wpList_store_new rfl 23 _ _ rfl rfl wr.heap.size #[.int .i64 c1, .int .i64 c2] rfl rfl _ #[.int .i64 0, .int .i64 0] wr rfl rfl rfl (by kernel_rfl) (by kernel_rfl) ?_ | refine wpList_row_g rfl 23 _ rfl _ rfl _ _ _ _ (Wd.Blk.new wr 23 #[.int .i64 c1, .int .i64 c2]) Try.underlying23 rfl (by kernel_rfl) ?_)
          have a_31 := (la.alloc (.cells #[.int .i64 c1, .int .i64 c2] 23))
          have b_31 := (lb.alloc (.cells #[.int .i64 c1, .int .i64 c2] 23))
          have c_31 := (lc.alloc (.cells #[.int .i64 c1, .int .i64 c2] 23))
          have l_31 := (ll.alloc (.cells #[.int .i64 c1, .int .i64 c2] 23))
          have inv_31 := (hi.alloc (.cells #[.int .i64 c1, .int .i64 c2] 23))
          refine (pc _).mono ?_; rintro e w_31 ⟨rfl, hb_31⟩
          have ac_31 := a_31.below hb_31 a_31.lt
          have bc_31 := b_31.below hb_31 b_31.lt
          have cc_31 := c_31.below hb_31 c_31.lt
          have lc_31 := l_31.below hb_31 l_31.lt
          have invc_31 := inv_31.call hb_31
          clear a_31 b_31 c_31 l_31 inv_31 hb_31
          go_wp2_with fail
          have a_32 := ac_31
          have b_32 := bc_31
          have c_32 := cc_31
          have l_32 := lc_31
          have inv_32 := invc_31
          refine (qc _).mono ?_; rintro e w_32 ⟨rfl, hb_32⟩
          have ac_32 := a_32.below hb_32 a_32.lt
          have bc_32 := b_32.below hb_32 b_32.lt
          have cc_32 := c_32.below hb_32 c_32.lt
          have lc_32 := l_32.below hb_32 l_32.lt
          have invc_32 := inv_32.call hb_32
          clear a_32 b_32 c_32 l_32 inv_32 hb_32
          go_wp2_with (first | refine wpList_store_new rfl 23 _ _ rfl rfl w_32.heap.size #[.int .i64 c1, .int .i64 c2] rfl rfl _ #[.int .i64 0, .int .i64 0] w_32 rfl rfl rfl (by kernel_rfl) (by kernel_rfl) ?_ | refine wpList_row_g rfl 23 _ rfl _ rfl _ _ _ _ (Wd.Blk.new w_32 23 #[.int .i64 c1, .int .i64 c2]) Try.underlying23 rfl (by kernel_rfl) ?_ | refine wpList_store_g rfl 23 _ _ rfl rfl W2.heap.size 4 #[.int .i64 c1, .int .i64 c2] #[.int .i64 a1, .int .i64 a2, .int .i64 b1, .int .i64 b2, .int .i64 c1, .int .i64 c2] rfl rfl _ _ (lc_32.alloc (.cells #[.int .i64 c1, .int .i64 c2] 23)) (by show 4 + 2 ≤ 6; decide) (by kernel_rfl) (by kernel_rfl) (by kernel_rfl) ?_)
          go_roundw
          case rel => exact Or.inr (Or.inr (Or.inr (⟨rfl, below_row (invc_32.alloc (.cells #[.int .i64 c1, .int .i64 c2] 23)).b (Nat.le_of_lt ga) _, Blk.rowFar (ac_32.alloc (.cells #[.int .i64 c1, .int .i64 c2] 23)) (Nat.ne_of_lt ga) _, Blk.rowFar (bc_32.alloc (.cells #[.int .i64 c1, .int .i64 c2] 23)) (Nat.ne_of_lt gb) _, Blk.rowFar (cc_32.alloc (.cells #[.int .i64 c1, .int .i64 c2] 23)) (Nat.ne_of_lt gc) _, Blk.row (lc_32.alloc (.cells #[.int .i64 c1, .int .i64 c2] 23)) _⟩)))
          case measure => simp [intOf]
        · have a_0 := la.cell 0; have a_1 := la.cell 1; simp at a_0 a_1
          have b_0 := lb.cell 0; have b_1 := lb.cell 1; simp at b_0 b_1
          have c_0 := lc.cell 0; have c_1 := lc.cell 1; simp at c_0 c_1
          have l_0 := ll.cell 0; have l_1 := ll.cell 1; have l_2 := ll.cell 2; have l_3 := ll.cell 3; have l_4 := ll.cell 4; have l_5 := ll.cell 5; simp at l_0 l_1 l_2 l_3 l_4 l_5
          go_upto_region 21 with fail
          first | (go_region_held3 (fun w' => BI w w' ∧ Blk w' (w.heap.size) 23 #[.int .i64 a1, .int .i64 a2] ∧ Blk w' (w.heap.size + 1) 23 #[.int .i64 b1, .int .i64 b2] ∧ Blk w' (w.heap.size + 1 + 1) 23 #[.int .i64 c1, .int .i64 c2] ∧ Blk w' (W2.heap.size) 46 #[.int .i64 a1, .int .i64 a2, .int .i64 b1, .int .i64 b2, .int .i64 c1, .int .i64 c2] ∧ w'.cell? ⟨w.heap.size, 0, none⟩ = some (.int .i64 a1) ∧ w'.cell? ⟨w.heap.size, 1, none⟩ = some (.int .i64 a2) ∧ w'.cell? ⟨w.heap.size + 1, 0, none⟩ = some (.int .i64 b1) ∧ w'.cell? ⟨w.heap.size + 1, 1, none⟩ = some (.int .i64 b2) ∧ w'.cell? ⟨w.heap.size + 1 + 1, 0, none⟩ = some (.int .i64 c1) ∧ w'.cell? ⟨w.heap.size + 1 + 1, 1, none⟩ = some (.int .i64 c2) ∧ w'.cell? ⟨W2.heap.size, 0, none⟩ = some (.int .i64 a1) ∧ w'.cell? ⟨W2.heap.size, 1, none⟩ = some (.int .i64 a2) ∧ w'.cell? ⟨W2.heap.size, 2, none⟩ = some (.int .i64 b1) ∧ w'.cell? ⟨W2.heap.size, 3, none⟩ = some (.int .i64 b2) ∧ w'.cell? ⟨W2.heap.size, 4, none⟩ = some (.int .i64 c1) ∧ w'.cell? ⟨W2.heap.size, 5, none⟩ = some (.int .i64 c2))
            (first | assumption | ((go_split_ands; (refine ⟨?_, ?_, ?_, ?_, ?_, ?_, ?_, ?_, ?_, ?_, ?_, ?_, ?_, ?_, ?_, ?_, ?_⟩ <;> first | assumption | exact cell_keep (by assumption) hbl | exact BI.call1 (by assumption) hbl | exact BI.below (w0 := w) (by assumption) hbl | exact hi.drew | exact la.drew | exact lb.drew | exact lc.drew | exact ll.drew))))
            (first
              | (go_at_call 15; refine (hT _).mono ?_; rintro e w' ⟨rfl, hbl⟩)
              | (go_at_call 16; refine (hB _).mono ?_; rintro e w' ⟨rfl, hbl⟩))) | fail
          rename_i hH
          obtain ⟨j3, ua, ub, uc, ul, _⟩ := hH
          obtain ⟨W3, hW⟩ := wname j3
          subst hW
          go_wp2
          go_ret
          exact ⟨rfl, j3⟩
theorem triangle_any (a1 a2 b1 b2 c1 c2 : Int) (w : World) : Calls Try.prog 7 #[.agg #[.int .i64 a1, .int .i64 a2], .agg #[.int .i64 b1, .int .i64 b2], .agg #[.int .i64 c1, .int .i64 c2]] w fun e w' => e = .returned (.bool true) ∧ Below w.heap.size w w' := by
  by_cases h : P2.ok ⟨a1, a2⟩ = true ∧ P2.ok ⟨b1, b2⟩ = true ∧ P2.ok ⟨c1, c2⟩ = true
  · exact tri_good a1 a2 b1 b2 c1 c2 w h.1 h.2.1 h.2.2
  · exact tri_bad a1 a2 b1 b2 c1 c2 w h
end Go.Proofs.Ytoiccljmdplfgaa.Pt
