/-
  THE PLANE's FUNCTIONS, WALKED: Turn, Between.
-/
import Derived.Test.YtoiccljmdplfgaaPl1
import Derived.Deep.RegionHeld3
import Derived.Deep.DrawnRows
namespace Go.Proofs.Ytoiccljmdplfgaa.Pl
open Go.ChangeShapes Go.WideShapes Go.ChangeAt Go.RowKit
open Go.Proofs.Ytoiccljmdplfgaa
open Go.Proofs.Ytoiccljmdplfgaa.Wd
open Go.Proofs.Ytoiccljmdplfgaa.Flo (fl Is)
set_option linter.unusedVariables false
attribute [local go_sem ↓] Go.wp_at_zero Go.wp_at_succ
/-- below the beginning nothing has changed -/
def BI (w0 w : World) : Prop := Below w0.heap.size w0 w
theorem BI.start (w : World) : BI w w := Below.refl _ _
theorem BI.call {w0 w w1 : World} (h : BI w0 w) (hb : Below w.heap.size w w1) : BI w0 w1 := Below.trans h (hb.mono (Below.size h))
theorem BI.alloc {w0 w : World} (h : BI w0 w) (o : Obj) : BI w0 (w.alloc o) := h.call ((Below.refl _ _).alloc (Nat.le_refl _) _)
theorem BI.drew {w0 w : World} (h : BI w0 w) : BI w0 w.drew := h.call ((Below.refl _ _).drew)
theorem BI.ofB {w0 w : World} {R : Prop} (h : BI w0 w ∧ R) : Below w0.heap.size w0 w := h.1
theorem BI.b {w0 w : World} (h : BI w0 w) : Below w0.heap.size w0 w := h
theorem csub {a b c d : Nat} {x y z u : Int} (ha : Is a x) (hb : Is b y) (hc : Is c z) (hd : Is d u) (h1 : (x - z).natAbs < 2 ^ 53) (h2 : (y - u).natAbs < 2 ^ 53) :
    ∃ re im, cSumBits .sub .f64 a b c d = some (re, im) ∧ Is re (x - z) ∧ Is im (y - u) := by
  obtain ⟨r, e1, i1⟩ := Flo.sub_Is ha hc h1
  obtain ⟨s, e2, i2⟩ := Flo.sub_Is hb hd h2
  refine ⟨r, s, ?_, i1, i2⟩
  have e1' : floatBits .sub .f64 a c = some r := e1
  have e2' : floatBits .sub .f64 b d = some s := e2
  unfold cSumBits; rw [e1', e2']; rfl
theorem cadd {a b c d : Nat} {x y z u : Int} (ha : Is a x) (hb : Is b y) (hc : Is c z) (hd : Is d u) (h1 : (x + z).natAbs < 2 ^ 53) (h2 : (y + u).natAbs < 2 ^ 53) :
    ∃ re im, cSumBits .add .f64 a b c d = some (re, im) ∧ Is re (x + z) ∧ Is im (y + u) := by
  obtain ⟨r, e1, i1⟩ := Flo.add_Is ha hc h1
  obtain ⟨s, e2, i2⟩ := Flo.add_Is hb hd h2
  refine ⟨r, s, ?_, i1, i2⟩
  have e1' : floatBits .add .f64 a c = some r := e1
  have e2' : floatBits .add .f64 b d = some s := e2
  unfold cSumBits; rw [e1', e2']; rfl
theorem cmul {a b c d : Nat} {x y z u : Int} (ha : Is a x) (hb : Is b y) (hc : Is c z) (hd : Is d u)
    (h1 : (x * z).natAbs < 2 ^ 53) (h2 : (y * u).natAbs < 2 ^ 53) (h3 : (x * u).natAbs < 2 ^ 53) (h4 : (y * z).natAbs < 2 ^ 53) (h5 : (x * z - y * u).natAbs < 2 ^ 53) (h6 : (x * u + y * z).natAbs < 2 ^ 53) :
    ∃ re im, cMulBits a b c d = some (re, im) ∧ Is re (x * z - y * u) ∧ Is im (x * u + y * z) := by
  obtain ⟨r1, e1, i1⟩ := Flo.mul_Is ha hc h1
  obtain ⟨r2, e2, i2⟩ := Flo.mul_Is hb hd h2
  obtain ⟨r3, e3, i3⟩ := Flo.sub_Is i1 i2 h5
  obtain ⟨r4, e4, i4⟩ := Flo.mul_Is ha hd h3
  obtain ⟨r5, e5, i5⟩ := Flo.mul_Is hb hc h4
  obtain ⟨r6, e6, i6⟩ := Flo.add_Is i4 i5 h6
  refine ⟨r3, r6, ?_, i3, i6⟩
  have e1' : floatBits .mul .f64 a c = some r1 := e1
  have e2' : floatBits .mul .f64 b d = some r2 := e2
  have e3' : floatBits .sub .f64 r1 r2 = some r3 := e3
  have e4' : floatBits .mul .f64 a d = some r4 := e4
  have e5' : floatBits .mul .f64 b c = some r5 := e5
  have e6' : floatBits .add .f64 r4 r5 = some r6 := e6
  unfold cMulBits; simp [e1', e2', e3', e4', e5', e6']
theorem is_0 : Is 0 0 := by
  have e : Ieee.double.word false 0 = 0 := by decide
  obtain ⟨z, hz⟩ : ∃ z : Nat, Ieee.double.read (Ieee.double.word false 0) = .number false 0 (-(z : Int)) := ⟨1074, Flo.read_zero false⟩
  rw [e] at hz
  exact ⟨⟨false, z, by rw [hz, Int.natAbs_zero, Nat.zero_mul], fun h => absurd rfl h⟩, by decide⟩
theorem number_at (x y : Int) (w : World) :
    Calls Try.prog 50 #[.agg #[.int .i64 y, .int .i64 x]] w fun e w' => e = .returned (.complex .f64 (fl x) (fl y)) ∧ Below w.heap.size w w' := number_any ⟨y, x⟩ w
theorem ord_0 {x : Nat} {a : Int} (h : Is x a) : FloatKind.f64.format.order x 0 = some (compare a 0) := Flo.order_Is h is_0
theorem mul_lt {x y : Int} (h1 : -1296000 ≤ x ∧ x ≤ 1296000) (h2 : -1296000 ≤ y ∧ y ≤ 1296000) : -1679616000000 ≤ x * y ∧ x * y ≤ 1679616000000 := by
  have a1 : x.natAbs ≤ 1296000 := by omega
  have a2 : y.natAbs ≤ 1296000 := by omega
  have := Nat.mul_le_mul a1 a2
  rw [← Int.natAbs_mul] at this
  omega
theorem ok3_iff {a b c : P2} : ok3 a b c = true ↔ a.ok = true ∧ b.ok = true ∧ c.ok = true := by unfold ok3; simp
theorem okP3 (a b c : P2) : okP [a, b, c] = ok3 a b c := by unfold okP ok3; simp
theorem okP2 (a b : P2) : okP [a, b] = (a.ok && b.ok) := by unfold okP; simp
theorem okP1 (a : P2) : okP [a] = a.ok := by unfold okP; simp
abbrev p3 (a b c : P2) : Array Value := #[.int .i64 a.la, .int .i64 a.lo, .int .i64 b.la, .int .i64 b.lo, .int .i64 c.la, .int .i64 c.lo]
theorem right3 {w : World} {g : Nat} {t : TypeId} {a b c : P2} (x : Blk w g t (p3 a b c)) :
    Calls Try.prog 49 #[.slice (some ⟨g, 0, none⟩) 3 3] w fun e w' => e = .returned (.bool (ok3 a b c)) ∧ Below w.heap.size w w' := by
  have := right_any _ 3 3 _ [a, b, c] w (pts_of (l := [a, b, c]) x rfl) (Nat.le_refl _) (by decide)
  rwa [okP3] at this
set_option maxRecDepth 20000 in
set_option maxHeartbeats 3200000 in
theorem turn_any (a b c : P2) (w : World) :
    Calls Try.prog 15 #[a.V, b.V, c.V] w fun e w' => e = .returned (.int .i64 (turnV a b c)) ∧ Below w.heap.size w w' := by
  have i0 := BI.start w
  have i1 := (((i0.alloc (.cells a.A 23)).alloc (.cells b.A 23)).alloc (.cells c.A 23)).alloc (.cells (p3 a b c) 23)
  have xa := (((Blk.new w 23 a.A).alloc (.cells b.A 23)).alloc (.cells c.A 23)).alloc (.cells (p3 a b c) 23)
  have xb := ((blk_at (w.alloc (.cells a.A 23)) 23 b.A (sz1 _ _ rfl)).alloc (.cells c.A 23)).alloc (.cells (p3 a b c) 23)
  have xc := (blk_at ((w.alloc (.cells a.A 23)).alloc (.cells b.A 23)) 23 c.A (sz1 _ _ (sz1 _ _ rfl))).alloc (.cells (p3 a b c) 23)
  have xs := blk_at (((w.alloc (.cells a.A 23)).alloc (.cells b.A 23)).alloc (.cells c.A 23)) 23 (p3 a b c) (sz1 _ _ (sz1 _ _ (sz1 _ _ rfl)))
  have hr := right3 xs
  cases h3 : ok3 a b c
  · have hv : turnV a b c = 0 := by unfold turnV; rw [h3]; rfl
    rw [h3] at hr; rw [hv]; clear hv h3
    go_enter Try.func15, Try.ntmps15
    go_wp2_with fail
    refine hr.mono ?_; rintro e w1 ⟨rfl, hb1⟩
    have i2 := i1.call hb1
    go_wp2_with fail
    go_ret
    exact ⟨rfl, i2⟩
  · obtain ⟨ha, hb, hc⟩ := ok3_iff.1 h3
    have ha' := P2.ok_iff.1 ha; have hb' := P2.ok_iff.1 hb; have hc' := P2.ok_iff.1 hc
    have hv : turnV a b c = sgn (side a b c) := by unfold turnV; rw [if_pos h3]
    rw [h3] at hr; rw [hv]; clear hv h3 ha hb hc
    obtain ⟨x1, y1, e1, ix1, iy1⟩ := csub (Flo.fl_Is (n := b.lo) (by omega)) (Flo.fl_Is (n := b.la) (by omega)) (Flo.fl_Is (n := a.lo) (by omega)) (Flo.fl_Is (n := a.la) (by omega)) (by omega) (by omega)
    obtain ⟨x2, y2, e2, ix2, iy2⟩ := csub (Flo.fl_Is (n := c.lo) (by omega)) (Flo.fl_Is (n := c.la) (by omega)) (Flo.fl_Is (n := b.lo) (by omega)) (Flo.fl_Is (n := b.la) (by omega)) (by omega) (by omega)
    have m1 := mul_lt (x := b.lo - a.lo) (y := c.lo - b.lo) (by omega) (by omega)
    have m2 := mul_lt (x := -(b.la - a.la)) (y := c.la - b.la) (by omega) (by omega)
    have m3 := mul_lt (x := b.lo - a.lo) (y := c.la - b.la) (by omega) (by omega)
    have m4 := mul_lt (x := -(b.la - a.la)) (y := c.lo - b.lo) (by omega) (by omega)
    obtain ⟨re, im, e3, _, iim⟩ := cmul ix1 (Flo.neg_Is iy1) ix2 iy2 (by omega) (by omega) (by omega) (by omega) (by omega) (by omega)
    have ho := ord_0 iim
    have hside : (b.lo - a.lo) * (c.la - b.la) + -(b.la - a.la) * (c.lo - b.lo) = side a b c := rfl
    rw [hside] at ho
    have s1 := fun w => run_complex_sum (P := Try.prog) w .sub (Or.inr rfl) 82 .f64 _ _ _ _ _ _ e1
    have s2 := fun w => run_complex_sum (P := Try.prog) w .sub (Or.inr rfl) 82 .f64 _ _ _ _ _ _ e2
    have s3 := fun w => run_complex_mul (P := Try.prog) w 82 _ _ _ _ _ _ e3
    clear m1 m2 m3 m4 e1 e2 e3 ix1 iy1 ix2 iy2 iim hside ha' hb' hc'
    generalize side a b c = z at *
    have hcmp : (z < 0 ∧ FloatKind.f64.format.order im 0 = some .lt) ∨ (z = 0 ∧ FloatKind.f64.format.order im 0 = some .eq) ∨ (0 < z ∧ FloatKind.f64.format.order im 0 = some .gt) := by
      rw [ho]
      rcases Int.lt_trichotomy z 0 with h | h | h
      · left; refine ⟨h, ?_⟩; simp [compare, compareOfLessAndEq, h]
      · right; left; refine ⟨h, ?_⟩; simp [compare, compareOfLessAndEq, h]
      · right; right; refine ⟨h, ?_⟩; have h1 : ¬ z < 0 := by omega
        have h2 : ¬ z = 0 := by omega
        simp [compare, compareOfLessAndEq, h1, h2]
    clear ho
    have hfin : ∃ (B1 B2 : Bool), (FloatKind.f64.format.order im 0 == some Ordering.gt) = B1 ∧ (FloatKind.f64.format.order im 0 == some Ordering.lt) = B2 ∧ sgn z = (if B1 = true then 1 else if B2 = true then -1 else 0) := by
      rcases hcmp with ⟨h, e⟩ | ⟨h, e⟩ | ⟨h, e⟩
      · refine ⟨false, true, by rw [e]; rfl, by rw [e]; rfl, ?_⟩; unfold sgn; rw [if_neg (by omega), if_pos h]; rfl
      · refine ⟨false, false, by rw [e]; rfl, by rw [e]; rfl, ?_⟩; unfold sgn; rw [if_neg (by omega), if_neg (by omega)]; rfl
      · refine ⟨true, false, by rw [e]; rfl, by rw [e]; rfl, ?_⟩; unfold sgn; rw [if_pos h]; rfl
    clear hcmp
    obtain ⟨B1, B2, hB1, hB2, hz⟩ := hfin
    rw [hz]; clear hz
    go_enter Try.func15, Try.ntmps15
    go_wp2_with fail
    refine hr.mono ?_; rintro e w1 ⟨rfl, hb1⟩
    have i2 := i1.call hb1
    have ya := xa.below hb1 xa.lt
    have yb := xb.below hb1 xb.lt
    have yc := xc.below hb1 xc.lt
    clear xa xb xc xs i1 hr hb1 i0
    have a0 := ya.cell 0; have a1 := ya.cell 1; have b0 := yb.cell 0; have b1 := yb.cell 1; have c0 := yc.cell 0; have c1 := yc.cell 1; simp at a0 a1 b0 b1 c0 c1
    clear ya yb yc
    go_upto_region 3 with fail
    go_region_held3 (fun w' => BI w w' ∧ w'.cell? ⟨w.heap.size, 0, none⟩ = some (.int .i64 a.la) ∧ w'.cell? ⟨w.heap.size, 1, none⟩ = some (.int .i64 a.lo) ∧ w'.cell? ⟨w.heap.size + 1, 0, none⟩ = some (.int .i64 b.la) ∧ w'.cell? ⟨w.heap.size + 1, 1, none⟩ = some (.int .i64 b.lo) ∧ w'.cell? ⟨w.heap.size + 1 + 1, 0, none⟩ = some (.int .i64 c.la) ∧ w'.cell? ⟨w.heap.size + 1 + 1, 1, none⟩ = some (.int .i64 c.lo))
      (first | assumption | ((go_split_ands; (refine ⟨?_, ?_, ?_, ?_, ?_, ?_, ?_⟩ <;> first | assumption | exact cell_keep (by assumption) hbl | exact BI.call (by assumption) hbl | exact i2.drew))))
      (first | (go_at_call 50; refine (number_at _ _ _).mono ?_; rintro e w' ⟨rfl, hbl⟩))
    cases B1 <;> cases B2
    all_goals
      go_wp2_with fail
      refine (conj_any _ _ _).mono ?_; rintro e wq ⟨rfl, rfl⟩
      go_wp2_with fail
      go_ret
      exact ⟨rfl, BI.ofB (by assumption)⟩
set_option maxRecDepth 20000 in
set_option maxHeartbeats 3200000 in
theorem between_any (a b c : P2) (w : World) :
    Calls Try.prog 16 #[a.V, b.V, c.V] w fun e w' => e = .returned (.bool (betV a b c)) ∧ Below w.heap.size w w' := by
  have i0 := BI.start w
  have i1 := (((i0.alloc (.cells a.A 23)).alloc (.cells b.A 23)).alloc (.cells c.A 23)).alloc (.cells (p3 a b c) 23)
  have xa := (((Blk.new w 23 a.A).alloc (.cells b.A 23)).alloc (.cells c.A 23)).alloc (.cells (p3 a b c) 23)
  have xb := ((blk_at (w.alloc (.cells a.A 23)) 23 b.A (sz1 _ _ rfl)).alloc (.cells c.A 23)).alloc (.cells (p3 a b c) 23)
  have xc := (blk_at ((w.alloc (.cells a.A 23)).alloc (.cells b.A 23)) 23 c.A (sz1 _ _ (sz1 _ _ rfl))).alloc (.cells (p3 a b c) 23)
  have xs := blk_at (((w.alloc (.cells a.A 23)).alloc (.cells b.A 23)).alloc (.cells c.A 23)) 23 (p3 a b c) (sz1 _ _ (sz1 _ _ (sz1 _ _ rfl)))
  have hr := right3 xs
  cases h3 : ok3 a b c
  · have hv : betV a b c = false := by unfold betV; rw [h3]; rfl
    rw [h3] at hr; rw [hv]; clear hv h3
    go_enter Try.func16, Try.ntmps16
    go_wp2_with fail
    refine hr.mono ?_; rintro e w1 ⟨rfl, hb1⟩
    have i2 := i1.call hb1
    go_wp2_with fail
    go_ret
    exact ⟨rfl, i2⟩
  · obtain ⟨ha, hb, hc⟩ := ok3_iff.1 h3
    have ha' := P2.ok_iff.1 ha; have hb' := P2.ok_iff.1 hb; have hc' := P2.ok_iff.1 hc
    have hv : betV a b c = (decide (cross a b c = 0) && decide (dot a b c ≤ 0)) := by unfold betV; rw [h3]; rfl
    rw [h3] at hr; rw [hv]; clear hv h3 ha hb hc
    obtain ⟨x1, y1, e1, ix1, iy1⟩ := csub (Flo.fl_Is (n := a.lo) (by omega)) (Flo.fl_Is (n := a.la) (by omega)) (Flo.fl_Is (n := b.lo) (by omega)) (Flo.fl_Is (n := b.la) (by omega)) (by omega) (by omega)
    obtain ⟨x2, y2, e2, ix2, iy2⟩ := csub (Flo.fl_Is (n := c.lo) (by omega)) (Flo.fl_Is (n := c.la) (by omega)) (Flo.fl_Is (n := b.lo) (by omega)) (Flo.fl_Is (n := b.la) (by omega)) (by omega) (by omega)
    have m1 := mul_lt (x := a.lo - b.lo) (y := c.lo - b.lo) (by omega) (by omega)
    have m2 := mul_lt (x := -(a.la - b.la)) (y := c.la - b.la) (by omega) (by omega)
    have m3 := mul_lt (x := a.lo - b.lo) (y := c.la - b.la) (by omega) (by omega)
    have m4 := mul_lt (x := -(a.la - b.la)) (y := c.lo - b.lo) (by omega) (by omega)
    obtain ⟨re, im, e3, ire, iim⟩ := cmul ix1 (Flo.neg_Is iy1) ix2 iy2 (by omega) (by omega) (by omega) (by omega) (by omega) (by omega)
    have ho := ord_0 iim
    have hp := ord_0 ire
    rw [show (a.lo - b.lo) * (c.la - b.la) + -(a.la - b.la) * (c.lo - b.lo) = cross a b c from rfl] at ho
    rw [show (a.lo - b.lo) * (c.lo - b.lo) - -(a.la - b.la) * (c.la - b.la) = dot a b c from rfl] at hp
    have s1 := fun w => run_complex_sum (P := Try.prog) w .sub (Or.inr rfl) 82 .f64 _ _ _ _ _ _ e1
    have s2 := fun w => run_complex_sum (P := Try.prog) w .sub (Or.inr rfl) 82 .f64 _ _ _ _ _ _ e2
    have s3 := fun w => run_complex_mul (P := Try.prog) w 82 _ _ _ _ _ _ e3
    clear m1 m2 m3 m4 e1 e2 e3 ix1 iy1 ix2 iy2 iim ire ha' hb' hc'
    generalize cross a b c = z at *
    generalize dot a b c = u at *
    have hB1 : (FloatKind.f64.format.order im 0 == some Ordering.eq) = decide (z = 0) := by
      rw [ho]
      rcases Int.lt_trichotomy z 0 with h | h | h
      · have h2 : ¬ z = 0 := by omega
        simp [compare, compareOfLessAndEq, h, h2]
      · simp [compare, compareOfLessAndEq, h]
      · have h1 : ¬ z < 0 := by omega
        have h2 : ¬ z = 0 := by omega
        simp [compare, compareOfLessAndEq, h1, h2]
    have hB2 : (FloatKind.f64.format.order re 0 == some Ordering.lt || FloatKind.f64.format.order re 0 == some Ordering.eq) = decide (u ≤ 0) := by
      rw [hp]
      rcases Int.lt_trichotomy u 0 with h | h | h
      · have h2 : u ≤ 0 := by omega
        simp [compare, compareOfLessAndEq, h, h2]
      · simp [compare, compareOfLessAndEq, h]
      · have h1 : ¬ u < 0 := by omega
        have h2 : ¬ u = 0 := by omega
        have h3 : ¬ u ≤ 0 := by omega
        simp [compare, compareOfLessAndEq, h1, h2, h3]
    clear ho hp
    generalize decide (z = 0) = B1 at *
    generalize decide (u ≤ 0) = B2 at *
    go_enter Try.func16, Try.ntmps16
    go_wp2_with fail
    refine hr.mono ?_; rintro e w1 ⟨rfl, hb1⟩
    have i2 := i1.call hb1
    have ya := xa.below hb1 xa.lt
    have yb := xb.below hb1 xb.lt
    have yc := xc.below hb1 xc.lt
    clear xa xb xc xs i1 hr hb1 i0
    have a0 := ya.cell 0; have a1 := ya.cell 1; have b0 := yb.cell 0; have b1 := yb.cell 1; have c0 := yc.cell 0; have c1 := yc.cell 1; simp at a0 a1 b0 b1 c0 c1
    clear ya yb yc
    go_upto_region 3 with fail
    go_region_held3 (fun w' => BI w w' ∧ w'.cell? ⟨w.heap.size, 0, none⟩ = some (.int .i64 a.la) ∧ w'.cell? ⟨w.heap.size, 1, none⟩ = some (.int .i64 a.lo) ∧ w'.cell? ⟨w.heap.size + 1, 0, none⟩ = some (.int .i64 b.la) ∧ w'.cell? ⟨w.heap.size + 1, 1, none⟩ = some (.int .i64 b.lo) ∧ w'.cell? ⟨w.heap.size + 1 + 1, 0, none⟩ = some (.int .i64 c.la) ∧ w'.cell? ⟨w.heap.size + 1 + 1, 1, none⟩ = some (.int .i64 c.lo))
      (first | assumption | ((go_split_ands; (refine ⟨?_, ?_, ?_, ?_, ?_, ?_, ?_⟩ <;> first | assumption | exact cell_keep (by assumption) hbl | exact BI.call (by assumption) hbl | exact i2.drew))))
      (first | (go_at_call 50; refine (number_at _ _ _).mono ?_; rintro e w' ⟨rfl, hbl⟩))
    cases B1 <;> cases B2
    all_goals
      go_wp2_with fail
      refine (conj_any _ _ _).mono ?_; rintro e wq ⟨rfl, rfl⟩
      go_wp2_with fail
      go_ret
      exact ⟨rfl, BI.ofB (by assumption)⟩
end Go.Proofs.Ytoiccljmdplfgaa.Pl
