/-
  THE PLANE, WALKED: what the statements of layer 41 ask first (lives).
-/
import Derived.Test.YtoiccljmdplfgaaPl3
namespace Go.Proofs.Ytoiccljmdplfgaa.Pl
open Go.ChangeShapes Go.WideShapes Go.ChangeAt Go.RowKit
open Go.Proofs.Ytoiccljmdplfgaa
open Go.Proofs.Ytoiccljmdplfgaa.Wd
open Go.Proofs.Ytoiccljmdplfgaa.Flo (fl Is)
set_option linter.unusedVariables false
attribute [local go_sem ↓] Go.wp_at_zero Go.wp_at_succ
theorem BI.below {w0 w w' : World} {g : Nat} {t : TypeId} {cs : Array Value} (x : Blk w g t cs) (hb : Below w.heap.size w w') : Blk w' g t cs := x.below hb x.lt
theorem BI.call1 {w0 w w1 : World} (h : BI w0 w) (hb : Below w.heap.size w w1) : BI w0 w1 := h.call hb
theorem point_bits (p : P2) (a b : Nat) (w : World) (h1 : floatToIntVal .f64 a .i64 = some p.lo) (h2 : floatToIntVal .f64 b .i64 = some p.la) :
    Calls Try.prog 52 #[.complex .f64 a b] w fun e w' => e = .returned p.V ∧ Below w.heap.size w w' := by
  have hc1 := fun w => run_convert_float_int (P := Try.prog) w 84 3 .f64 .i64 a p.lo (by kernel_rfl) (by kernel_rfl) h1
  have hc2 := fun w => run_convert_float_int (P := Try.prog) w 84 3 .f64 .i64 b p.la (by kernel_rfl) (by kernel_rfl) h2
  have hbl := (Below.refl w.heap.size w).alloc (Nat.le_refl _) (.cells p.A 23)
  go_enter Try.func52, Try.ntmps52
  go_wp2_with (refine wpList_store_new rfl 23 _ _ rfl rfl w.heap.size p.A rfl rfl _ #[.int .i64 0, .int .i64 0] w rfl rfl rfl (by kernel_rfl) (by kernel_rfl) ?_)
  exact bodyPost_ret (results_p rfl _ _ _ _ _ rfl (Blk.new w _ _) rfl) rfl ⟨rfl, hbl⟩
/-- the middle, by the bits on the way -/
theorem mid_bits (a b p : P2) (x y u v : Nat) (w : World) (hab : (a.ok && b.ok) = true) (e1 : cSumBits .add .f64 (fl a.lo) (fl a.la) (fl b.lo) (fl b.la) = some (x, y)) (e2 : floatBits .quo .f64 x 4611686018427387904 = some u) (e3 : floatBits .quo .f64 y 4611686018427387904 = some v)
    (h1 : floatToIntVal .f64 u .i64 = some p.lo) (h2 : floatToIntVal .f64 v .i64 = some p.la) :
    Calls Try.prog 32 #[a.V, b.V] w fun e w' => e = .returned p.V ∧ Below w.heap.size w w' := by
  have i0 := BI.start w
  have i1 := (((i0.alloc (.cells a.A 23)).alloc (.cells b.A 23)).alloc (.cells #[.int .i64 0, .int .i64 0] 23)).alloc (.cells (p2 a b) 23)
  have xa := (((Blk.new w 23 a.A).alloc (.cells b.A 23)).alloc (.cells #[.int .i64 0, .int .i64 0] 23)).alloc (.cells (p2 a b) 23)
  have xb := ((blk_at (w.alloc (.cells a.A 23)) 23 b.A (sz1 _ _ rfl)).alloc (.cells #[.int .i64 0, .int .i64 0] 23)).alloc (.cells (p2 a b) 23)
  have xz := (blk_at ((w.alloc (.cells a.A 23)).alloc (.cells b.A 23)) 23 #[.int .i64 0, .int .i64 0] (sz1 _ _ (sz1 _ _ rfl))).alloc (.cells (p2 a b) 23)
  have xs := blk_at (((w.alloc (.cells a.A 23)).alloc (.cells b.A 23)).alloc (.cells #[.int .i64 0, .int .i64 0] 23)) 23 (p2 a b) (sz1 _ _ (sz1 _ _ (sz1 _ _ rfl)))
  have hr := right2 xs
  rw [hab] at hr
  have s1 := fun w => run_complex_sum (P := Try.prog) w .add (Or.inl rfl) 82 .f64 _ _ _ _ _ _ e1
  have s2 := fun w => run_float_arith (P := Try.prog) w .quo 84 .f64 _ _ _ e2
  have s3 := fun w => run_float_arith (P := Try.prog) w .quo 84 .f64 _ _ _ e3
  have hpt := fun w => point_bits p u v w h1 h2
  clear e1 e2 e3 h1 h2 hab
  go_enter Try.func32, Try.ntmps32
  go_wp2_with fail
  refine hr.mono ?_; rintro e w1 ⟨rfl, hb1⟩
  have i2 := i1.call hb1
  have ya := xa.below hb1 xa.lt
  have yb := xb.below hb1 xb.lt
  have yz := xz.below hb1 xz.lt
  clear xa xb xz xs i1 hr hb1 i0
  have a0 := ya.cell 0; have a1 := ya.cell 1; have b0 := yb.cell 0; have b1 := yb.cell 1; simp at a0 a1 b0 b1
  clear ya yb
  go_upto_region 3 with fail
  go_region_held3 (fun w' => BI w w' ∧ Blk w' (w.heap.size + 1 + 1) 23 #[.int .i64 0, .int .i64 0] ∧ w'.cell? ⟨w.heap.size, 0, none⟩ = some (.int .i64 a.la) ∧ w'.cell? ⟨w.heap.size, 1, none⟩ = some (.int .i64 a.lo) ∧ w'.cell? ⟨w.heap.size + 1, 0, none⟩ = some (.int .i64 b.la) ∧ w'.cell? ⟨w.heap.size + 1, 1, none⟩ = some (.int .i64 b.lo))
    (first | assumption | ((go_split_ands; (refine ⟨?_, ?_, ?_, ?_, ?_, ?_⟩ <;> first | assumption | exact cell_keep (by assumption) hbl | exact BI.call1 (by assumption) hbl | exact BI.below (w0 := w) (by assumption) hbl | exact i2.drew | exact yz.drew))))
    (first | (go_at_call 50; refine (number_at _ _ _).mono ?_; rintro e w' ⟨rfl, hbl⟩))
  rename_i hH
  obtain ⟨i3, z3, _⟩ := hH
  go_wp2_with fail
  refine (hpt _).mono ?_; rintro e w4 ⟨rfl, hb4⟩
  have i4 := BI.call1 i3 hb4
  have z4 := z3.below hb4 z3.lt
  go_wp2_with (refine wpList_store_g rfl 23 _ _ rfl rfl _ 0 p.A p.A rfl rfl _ _ z4 (by show 0 + 2 ≤ 2; decide) (by kernel_rfl) (by kernel_rfl) (by kernel_rfl) ?_)
  exact bodyPost_ret (results_p rfl _ _ _ _ _ rfl (Blk.row z4 _) rfl) rfl ⟨rfl, below_row i4 (Nat.le_add_right _ 2) _⟩
theorem k0 (w : World) : Calls Try.prog 15 #[.agg #[.int .i64 0, .int .i64 0], .agg #[.int .i64 0, .int .i64 10], .agg #[.int .i64 10, .int .i64 0]] w fun e w' => e = .returned (.int .i64 1) ∧ Below w.heap.size w w' := by
  have := turn_any ⟨0, 0⟩ ⟨0, 10⟩ ⟨10, 0⟩ w
  rw [show turnV ⟨0, 0⟩ ⟨0, 10⟩ ⟨10, 0⟩ = 1 from by kernel_rfl] at this
  exact this
theorem k1 (w : World) : Calls Try.prog 15 #[.agg #[.int .i64 0, .int .i64 0], .agg #[.int .i64 10, .int .i64 0], .agg #[.int .i64 0, .int .i64 10]] w fun e w' => e = .returned (.int .i64 (-1)) ∧ Below w.heap.size w w' := by
  have := turn_any ⟨0, 0⟩ ⟨10, 0⟩ ⟨0, 10⟩ w
  rw [show turnV ⟨0, 0⟩ ⟨10, 0⟩ ⟨0, 10⟩ = -1 from by kernel_rfl] at this
  exact this
theorem k2 (w : World) : Calls Try.prog 15 #[.agg #[.int .i64 0, .int .i64 0], .agg #[.int .i64 0, .int .i64 10], .agg #[.int .i64 0, .int .i64 20]] w fun e w' => e = .returned (.int .i64 0) ∧ Below w.heap.size w w' := by
  have := turn_any ⟨0, 0⟩ ⟨0, 10⟩ ⟨0, 20⟩ w
  rw [show turnV ⟨0, 0⟩ ⟨0, 10⟩ ⟨0, 20⟩ = 0 from by kernel_rfl] at this
  exact this
theorem k3 (w : World) : Calls Try.prog 16 #[.agg #[.int .i64 0, .int .i64 0], .agg #[.int .i64 0, .int .i64 10], .agg #[.int .i64 0, .int .i64 20]] w fun e w' => e = .returned (.bool true) ∧ Below w.heap.size w w' := by
  have := between_any ⟨0, 0⟩ ⟨0, 10⟩ ⟨0, 20⟩ w
  rw [show betV ⟨0, 0⟩ ⟨0, 10⟩ ⟨0, 20⟩ = true from by kernel_rfl] at this
  exact this
theorem k4 (w : World) : Calls Try.prog 16 #[.agg #[.int .i64 0, .int .i64 0], .agg #[.int .i64 0, .int .i64 20], .agg #[.int .i64 0, .int .i64 10]] w fun e w' => e = .returned (.bool false) ∧ Below w.heap.size w w' := by
  have := between_any ⟨0, 0⟩ ⟨0, 20⟩ ⟨0, 10⟩ w
  rw [show betV ⟨0, 0⟩ ⟨0, 20⟩ ⟨0, 10⟩ = false from by kernel_rfl] at this
  exact this
theorem k5 (w : World) : Calls Try.prog 16 #[.agg #[.int .i64 0, .int .i64 0], .agg #[.int .i64 0, .int .i64 0], .agg #[.int .i64 10, .int .i64 0]] w fun e w' => e = .returned (.bool true) ∧ Below w.heap.size w w' := by
  have := between_any ⟨0, 0⟩ ⟨0, 0⟩ ⟨10, 0⟩ w
  rw [show betV ⟨0, 0⟩ ⟨0, 0⟩ ⟨10, 0⟩ = true from by kernel_rfl] at this
  exact this
theorem k6 (w : World) : Calls Try.prog 17 #[.agg #[.int .i64 0, .int .i64 (-647999)], .agg #[.int .i64 3, .int .i64 647999]] w fun e w' => e = .returned (.int .i64 13) ∧ Below w.heap.size w w' := by
  have := dist_any ⟨0, (-647999)⟩ ⟨3, 647999⟩ w
  rw [show distV ⟨0, (-647999)⟩ ⟨3, 647999⟩ = 13 from by kernel_rfl] at this
  exact this
theorem k7 (w : World) : Calls Try.prog 18 #[.agg #[.int .i64 0, .int .i64 10], .int .i64 1] w fun e w' => e = .returned (.agg #[.int .i64 10, .int .i64 0]) ∧ Below w.heap.size w w' := by
  have := quarter_any ⟨0, 10⟩ 1 w (by decide)
  rw [show quart ⟨0, 10⟩ 1 = ⟨10, 0⟩ from by kernel_rfl] at this
  exact this
theorem k8 (w : World) : Calls Try.prog 18 #[.agg #[.int .i64 10, .int .i64 0], .int .i64 (-1)] w fun e w' => e = .returned (.agg #[.int .i64 0, .int .i64 10]) ∧ Below w.heap.size w w' := by
  have := quarter_any ⟨10, 0⟩ (-1) w (by decide)
  rw [show quart ⟨10, 0⟩ (-1) = ⟨0, 10⟩ from by kernel_rfl] at this
  exact this
theorem k9 (w : World) : Calls Try.prog 18 #[.agg #[.int .i64 0, .int .i64 324001], .int .i64 1] w fun e w' => e = .returned (.agg #[.int .i64 0, .int .i64 0]) ∧ Below w.heap.size w w' := by
  have := quarter_any ⟨0, 324001⟩ 1 w (by decide)
  rw [show quart ⟨0, 324001⟩ 1 = ⟨0, 0⟩ from by kernel_rfl] at this
  exact this
theorem k10 (w : World) : Calls Try.prog 32 #[.agg #[.int .i64 3, .int .i64 0], .agg #[.int .i64 4, .int .i64 (-3)]] w fun e w' => e = .returned (.agg #[.int .i64 3, .int .i64 (-1)]) ∧ Below w.heap.size w w' := by
  exact mid_bits ⟨3, 0⟩ ⟨4, -3⟩ ⟨3, -1⟩ 13837309855095848960 4619567317775286272 13832806255468478464 4615063718147915776 w (by decide) (by decide +kernel) (by decide +kernel) (by decide +kernel) (by decide +kernel) (by decide +kernel)
theorem k11 (w : World) : Calls Try.prog 14 #[.agg #[.int .i64 0, .int .i64 10]] w fun e w' => e = .returned (.int .i64 0) ∧ Below w.heap.size w w' := by
  have := check_any ⟨0, 10⟩ w
  rw [show chkV ⟨0, 10⟩ = 0 from by kernel_rfl] at this
  exact this
theorem k12 (w : World) : Calls Try.prog 14 #[.agg #[.int .i64 324001, .int .i64 0]] w fun e w' => e = .returned (.int .i64 2) ∧ Below w.heap.size w w' := by
  have := check_any ⟨324001, 0⟩ w
  rw [show chkV ⟨324001, 0⟩ = 2 from by kernel_rfl] at this
  exact this
theorem turn_at (a1 a2 b1 b2 c1 c2 : Int) (w : World) : Calls Try.prog 15 #[.agg #[.int .i64 a1, .int .i64 a2], .agg #[.int .i64 b1, .int .i64 b2], .agg #[.int .i64 c1, .int .i64 c2]] w fun e w' => e = .returned (.int .i64 (turnV ⟨a1, a2⟩ ⟨b1, b2⟩ ⟨c1, c2⟩)) ∧ Below w.heap.size w w' := turn_any ⟨a1, a2⟩ ⟨b1, b2⟩ ⟨c1, c2⟩ w
theorem bet_at (a1 a2 b1 b2 c1 c2 : Int) (w : World) : Calls Try.prog 16 #[.agg #[.int .i64 a1, .int .i64 a2], .agg #[.int .i64 b1, .int .i64 b2], .agg #[.int .i64 c1, .int .i64 c2]] w fun e w' => e = .returned (.bool (betV ⟨a1, a2⟩ ⟨b1, b2⟩ ⟨c1, c2⟩)) ∧ Below w.heap.size w w' := between_any ⟨a1, a2⟩ ⟨b1, b2⟩ ⟨c1, c2⟩ w
theorem quart_at (a1 a2 n : Int) (w : World) (hn : -9223372036854775808 ≤ n ∧ n ≤ 9223372036854775807) : Calls Try.prog 18 #[.agg #[.int .i64 a1, .int .i64 a2], .int .i64 n] w fun e w' => e = .returned (.agg #[.int .i64 (quart ⟨a1, a2⟩ n).la, .int .i64 (quart ⟨a1, a2⟩ n).lo]) ∧ Below w.heap.size w w' := quarter_any ⟨a1, a2⟩ n w hn
theorem chk_at (a1 a2 : Int) (w : World) : Calls Try.prog 14 #[.agg #[.int .i64 a1, .int .i64 a2]] w fun e w' => e = .returned (.int .i64 (chkV ⟨a1, a2⟩)) ∧ Below w.heap.size w w' := check_any ⟨a1, a2⟩ w
set_option maxRecDepth 20000 in
set_option maxHeartbeats 8000000 in
theorem lives41_any (w : World) : Calls Try.prog 13 #[] w fun e w' => e = .returned (.bool true) ∧ Below w.heap.size w w' := by
  have i0 := BI.start w
  have i1 := ((i0.alloc (.cells #[.int .i64 0, .int .i64 0] 23)).alloc (.cells #[.int .i64 0, .int .i64 10] 23)).alloc (.cells #[.int .i64 10, .int .i64 0] 23)
  have x1 := ((Blk.new w 23 #[.int .i64 0, .int .i64 0]).alloc (.cells #[.int .i64 0, .int .i64 10] 23)).alloc (.cells #[.int .i64 10, .int .i64 0] 23)
  have x2 := (blk_at (w.alloc (.cells #[.int .i64 0, .int .i64 0] 23)) 23 #[.int .i64 0, .int .i64 10] (sz1 _ _ rfl)).alloc (.cells #[.int .i64 10, .int .i64 0] 23)
  have x3 := blk_at ((w.alloc (.cells #[.int .i64 0, .int .i64 0] 23)).alloc (.cells #[.int .i64 0, .int .i64 10] 23)) 23 #[.int .i64 10, .int .i64 0] (sz1 _ _ (sz1 _ _ rfl))
  have v0 : turnV ⟨0, 0⟩ ⟨0, 10⟩ ⟨10, 0⟩ = 1 := by kernel_rfl
  have v1 : turnV ⟨0, 0⟩ ⟨10, 0⟩ ⟨0, 10⟩ = -1 := by kernel_rfl
  have v2 : turnV ⟨0, 0⟩ ⟨0, 10⟩ ⟨0, 20⟩ = 0 := by kernel_rfl
  have v3 : betV ⟨0, 0⟩ ⟨0, 10⟩ ⟨0, 20⟩ = true := by kernel_rfl
  have v4 : betV ⟨0, 0⟩ ⟨0, 20⟩ ⟨0, 10⟩ = false := by kernel_rfl
  have v5 : betV ⟨0, 0⟩ ⟨0, 0⟩ ⟨10, 0⟩ = true := by kernel_rfl
  have v6 : chkV ⟨0, 10⟩ = 0 := by kernel_rfl
  have v7 : chkV ⟨324001, 0⟩ = 2 := by kernel_rfl
  have q0 : (quart ⟨0, 10⟩ 1).la = 10 := by kernel_rfl
  have r0 : (quart ⟨0, 10⟩ 1).lo = 0 := by kernel_rfl
  have q1 : (quart ⟨10, 0⟩ (-1)).la = 0 := by kernel_rfl
  have r1 : (quart ⟨10, 0⟩ (-1)).lo = 10 := by kernel_rfl
  have q2 : (quart ⟨0, 324001⟩ 1).la = 0 := by kernel_rfl
  have r2 : (quart ⟨0, 324001⟩ 1).lo = 0 := by kernel_rfl
  go_enter Try.func13, Try.ntmps13
  go_upto_region 2 with fail
  have a0 := x1.cell 0; have a1 := x1.cell 1; have b0 := x2.cell 0; have b1 := x2.cell 1; have c0 := x3.cell 0; have c1 := x3.cell 1; simp at a0 a1 b0 b1 c0 c1
  clear x1 x2 x3 i0
  generalize ((w.alloc (.cells #[.int .i64 0, .int .i64 0] 23)).alloc (.cells #[.int .i64 0, .int .i64 10] 23)).alloc (.cells #[.int .i64 10, .int .i64 0] 23) = W at *
  simp only [List.append] at *
  go_region_held3 (fun w' => BI w w' ∧ w'.cell? ⟨w.heap.size, 0, none⟩ = some (.int .i64 0) ∧ w'.cell? ⟨w.heap.size, 1, none⟩ = some (.int .i64 0) ∧ w'.cell? ⟨w.heap.size + 1, 0, none⟩ = some (.int .i64 0) ∧ w'.cell? ⟨w.heap.size + 1, 1, none⟩ = some (.int .i64 10) ∧ w'.cell? ⟨w.heap.size + 1 + 1, 0, none⟩ = some (.int .i64 10) ∧ w'.cell? ⟨w.heap.size + 1 + 1, 1, none⟩ = some (.int .i64 0))
    (first | assumption | ((go_split_ands; (refine ⟨?_, ?_, ?_, ?_, ?_, ?_, ?_⟩ <;> first | assumption | exact cell_keep (by assumption) hbl | exact BI.call1 (by assumption) hbl | exact i1.drew))))
    (first
      | (go_at_call 15; refine (turn_at _ _ _ _ _ _ _).mono ?_; rintro e w' ⟨rfl, hbl⟩)
      | (go_at_call 16; refine (bet_at _ _ _ _ _ _ _).mono ?_; rintro e w' ⟨rfl, hbl⟩)
      | (go_at_call 17; refine (k6 _).mono ?_; rintro e w' ⟨rfl, hbl⟩)
      | (go_at_call 18; refine (quart_at _ _ _ _ (by decide)).mono ?_; rintro e w' ⟨rfl, hbl⟩)
      | (go_at_call 32; refine (k10 _).mono ?_; rintro e w' ⟨rfl, hbl⟩)
      | (go_at_call 14; refine (chk_at _ _ _).mono ?_; rintro e w' ⟨rfl, hbl⟩))
  go_wp2
  go_ret
  exact ⟨rfl, BI.ofB (by assumption)⟩
end Go.Proofs.Ytoiccljmdplfgaa.Pl
