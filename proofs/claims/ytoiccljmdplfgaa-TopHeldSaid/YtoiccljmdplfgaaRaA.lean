/-
  THE REFERENCE OF POINTS AND NAMES, WALKED.
-/
import Derived.Test.YtoiccljmdplfgaaPl2
import Derived.Test.YtoiccljmdplfgaaNmV
namespace Go.Proofs.Ytoiccljmdplfgaa.Pl
open Go.ChangeShapes Go.WideShapes Go.ChangeAt Go.RowKit
open Go.Proofs.Ytoiccljmdplfgaa
open Go.Proofs.Ytoiccljmdplfgaa.Wd
set_option linter.unusedVariables false
theorem area_side (a b c : P2) : (b.lo - a.lo) * (c.la - a.la) - (b.la - a.la) * (c.lo - a.lo) = side a b c := by unfold side; grind
theorem mul_sgn {x y : Int} : x * y ≤ 0 ↔ (x ≤ 0 ∧ 0 ≤ y) ∨ (0 ≤ x ∧ y ≤ 0) := by
  constructor
  · intro h
    rcases Int.le_total x 0 with h1 | h1 <;> rcases Int.le_total y 0 with h2 | h2
    · rcases Int.lt_or_eq_of_le h1 with h3 | h3
      · rcases Int.lt_or_eq_of_le h2 with h4 | h4
        · have := Int.mul_pos_of_neg_of_neg h3 h4; omega
        · left; omega
      · right; omega
    · left; exact ⟨h1, h2⟩
    · right; exact ⟨h1, h2⟩
    · rcases Int.lt_or_eq_of_le h1 with h3 | h3
      · rcases Int.lt_or_eq_of_le h2 with h4 | h4
        · have := Int.mul_pos h3 h4; omega
        · right; omega
      · left; omega
  · rintro (⟨h1, h2⟩ | ⟨h1, h2⟩)
    · have := Int.mul_nonneg (show 0 ≤ -x by omega) h2; rw [Int.neg_mul] at this; omega
    · have := Int.mul_nonneg h1 (show 0 ≤ -y by omega); rw [Int.mul_neg] at this; omega
theorem col_dot {u1 u2 v1 v2 : Int} (h : u1 * v2 = u2 * v1) : u1 * v1 + u2 * v2 ≤ 0 ↔ (u1 * v1 ≤ 0 ∧ u2 * v2 ≤ 0) := by
  have hsq : 0 ≤ (u1 * v1) * (u2 * v2) := by
    have e : (u1 * v1) * (u2 * v2) = (u1 * v2) * (u1 * v2) := by
      have : (u1 * v1) * (u2 * v2) = (u1 * v2) * (u2 * v1) := by grind
      rw [this, ← h]
    rw [e]; exact sq_nonneg _
  generalize u1 * v1 = X at *
  generalize u2 * v2 = Y at *
  constructor
  · intro hs
    rcases Int.lt_or_le 0 X with h1 | h1
    · have h2 : Y < 0 := by omega
      have := Int.mul_pos h1 (show 0 < -Y by omega); rw [Int.mul_neg] at this; omega
    · rcases Int.lt_or_le 0 Y with h3 | h3
      · have h2 : X < 0 := by omega
        have := Int.mul_pos (show 0 < -X by omega) h3; rw [Int.neg_mul] at this; omega
      · exact ⟨h1, h3⟩
  · rintro ⟨h1, h2⟩; omega
/-- between two: the document's -/
def betR (a b c : P2) : Bool := ok3 a b c && (decide (side a b c = 0) && (decide (min a.la c.la ≤ b.la) && (decide (b.la ≤ max a.la c.la) && (decide (min a.lo c.lo ≤ b.lo) && decide (b.lo ≤ max a.lo c.lo)))))
theorem box_1 (a b c : Int) : (min a c ≤ b ∧ b ≤ max a c) ↔ (a - b) * (c - b) ≤ 0 := by
  rw [mul_sgn]; omega
theorem betR_eq (a b c : P2) : betR a b c = betV a b c := by
  unfold betR betV
  cases ok3 a b c
  · rfl
  · simp only [Bool.true_and]
    rw [Bool.eq_iff_iff]
    simp only [Bool.and_eq_true, decide_eq_true_eq]
    have h1 := box_1 a.la b.la c.la
    have h2 := box_1 a.lo b.lo c.lo
    have hc : cross a b c = -side a b c := cross_side a b c
    have hd : dot a b c = (a.lo - b.lo) * (c.lo - b.lo) + (a.la - b.la) * (c.la - b.la) := by unfold dot; grind
    constructor
    · rintro ⟨e, p1, p2, p3, p4⟩
      have q1 := h1.1 ⟨p1, p2⟩; have q2 := h2.1 ⟨p3, p4⟩
      exact ⟨by omega, by omega⟩
    · rintro ⟨e, p⟩
      have e2 : (a.lo - b.lo) * (c.la - b.la) = (a.la - b.la) * (c.lo - b.lo) := by unfold cross at e; grind
      rw [hd] at p
      obtain ⟨q1, q2⟩ := (col_dot e2).1 p
      exact ⟨by omega, (h1.2 q2).1, (h1.2 q2).2, (h2.2 q1).1, (h2.2 q1).2⟩
theorem run_max2 {P : Program} (w : World) (ts : Array TypeId) (t : TypeId) (a b : Int) :
    (Builtin.max_ ts t #[.int .i64 a, .int .i64 b]).run P w = .ok (.int .i64 (max a b)) w := by
  simp [Builtin.max_, Builtin.max2]
  rw [Int.max_def]
  split <;> split <;> first | rfl | (congr 2; omega) | omega
theorem run_min2 {P : Program} (w : World) (ts : Array TypeId) (t : TypeId) (a b : Int) :
    (Builtin.min_ ts t #[.int .i64 a, .int .i64 b]).run P w = .ok (.int .i64 (min a b)) w := by
  simp [Builtin.min_, Builtin.min2]
  rw [Int.min_def]
  split <;> split <;> first | rfl | (congr 2; omega) | omega
theorem rcheck_any (p : P2) (w : World) :
    Calls Try.prog 54 #[p.V] w fun e w' => e = .returned (.int .i64 (chkV p)) ∧ Below w.heap.size w w' := by
  have hb := (Below.refl w.heap.size w).alloc (Nat.le_refl _) (.cells p.A 23)
  obtain ⟨a, b⟩ := p
  by_cases h : -324000 ≤ a ∧ a ≤ 324000 ∧ -648000 ≤ b ∧ b ≤ 648000
  · have hv : chkV ⟨a, b⟩ = 0 := by unfold chkV; rw [if_pos (P2.ok_iff.2 h)]
    rw [hv]; clear hv
    obtain ⟨h1, h2, h3, h4⟩ := h
    go_enter Try.func54, Try.ntmps54
    go_wp2
    go_ret
    exact ⟨rfl, hb⟩
  · have hv : chkV ⟨a, b⟩ = 2 := by unfold chkV; rw [if_neg (fun q => h (P2.ok_iff.1 q))]
    rw [hv]; clear hv
    have hs : a < -324000 ∨ (-324000 ≤ a ∧ 324000 < a) ∨ (-324000 ≤ a ∧ a ≤ 324000 ∧ b < -648000) ∨ (-324000 ≤ a ∧ a ≤ 324000 ∧ -648000 ≤ b ∧ 648000 < b) := by omega
    clear h
    rcases hs with h1 | ⟨h1, h2⟩ | ⟨h1, h2, h3⟩ | ⟨h1, h2, h3, h4⟩
    all_goals
      go_enter Try.func54, Try.ntmps54
      go_wp2
      go_ret
      exact ⟨rfl, hb⟩
set_option maxRecDepth 20000 in
set_option maxHeartbeats 1600000 in
theorem rright_any (A : Option Addr) (n c B : Nat) (l : List P2) (w : World) (hR : Pts w B A n l) (hB : B ≤ w.heap.size) (hn : n ≤ 1000) :
    Calls Try.prog 81 #[.slice A n c] w fun e w' => e = .returned (.bool (okP l)) ∧ Below w.heap.size w w' := by
  have hll : l.length = n := hR.1
  go_enter Try.func81, Try.ntmps81
  go_wp2
  go_loopw [4, 7] (fun _ i w' => ∃ k : Nat, i = .int .i64 k ∧ k ≤ n ∧ okP (l.take k) = true ∧ Below w.heap.size w w') (fun _ i _ => n - (intOf i).toNat)
  case atStart => exact ⟨0, rfl, Nat.zero_le _, by simp [okP], Below.refl _ _⟩
  case round =>
    obtain ⟨k, rfl, hk, hall, hb⟩ := hrel
    by_cases hlt : k < n
    · have hlt' : (k : Int) < (n : Int) := by omega
      have hkl : k < l.length := by omega
      obtain ⟨ad, rfl, hrow⟩ := (hR.below (hb.mono hB)).row hlt hkl
      have hT := Lib.hid (okP_take hkl)
      have hNo := Lib.hid (okP_no hkl)
      have HA := Lib.hid hall; clear hall
      generalize l[k] = r at *
      have hb1 := hb.alloc hb.size (.cells r.A 23)
      go_wp2_with (refine wpList_at_g rfl 23 _ rfl B _ r.A rfl _ hrow Try.underlying23 rfl (by kernel_rfl) ?_)
      refine (rcheck_any r _).mono ?_; rintro e w1 ⟨rfl, hb2⟩
      have hb3 := hb1.trans (hb2.mono hb1.size)
      clear hb1 hb2 hb
      cases hr : r.ok
      · have HF := Lib.hid (hNo.out hr)
        have hv : (chkV r != 0) = true := by unfold chkV; rw [hr]; rfl
        clear hr
        go_wp2_with fail
        go_ret
        exact ⟨by rw [HF.out]; rfl, hb3⟩
      · have HF := Lib.hid hr
        have hv : (chkV r != 0) = false := by unfold chkV; rw [hr]; rfl
        clear hr
        go_wp2_with fail
        go_roundw
        case rel => exact ⟨k + 1, by go_num, by omega, by rw [hT.out, HA.out, HF.out]; rfl, hb3⟩
        case measure => simp [intOf]; omega
    · obtain rfl : k = n := by omega
      have hlt' : ¬ (k : Int) < (k : Int) := by omega
      rw [List.take_of_length_le (by omega)] at hall
      have HA := Lib.hid hall; clear hall
      go_wp2
      go_ret
      exact ⟨by rw [HA.out]; rfl, hb⟩
theorem rright3 {w : World} {g : Nat} {t : TypeId} {a b c : P2} (x : Blk w g t (p3 a b c)) :
    Calls Try.prog 81 #[.slice (some ⟨g, 0, none⟩) 3 3] w fun e w' => e = .returned (.bool (ok3 a b c)) ∧ Below w.heap.size w w' := by
  have := rright_any _ 3 3 _ [a, b, c] w (pts_of (l := [a, b, c]) x rfl) (Nat.le_refl _) (by decide)
  rwa [okP3] at this
theorem w64b {n : Int} (h : -9223372036854775808 ≤ n ∧ n ≤ 9223372036854775807) : wrap64 n = n := by unfold wrap64; omega
set_option maxRecDepth 20000 in
set_option maxHeartbeats 1600000 in
theorem rarea_any (a b c : P2) (w : World) (h3 : ok3 a b c = true) :
    Calls Try.prog 82 #[a.V, b.V, c.V] w fun e w' => e = .returned (.int .i64 (side a b c)) ∧ Below w.heap.size w w' := by
  have i0 := BI.start w
  have i1 := ((i0.alloc (.cells a.A 23)).alloc (.cells b.A 23)).alloc (.cells c.A 23)
  have xa := ((Blk.new w 23 a.A).alloc (.cells b.A 23)).alloc (.cells c.A 23)
  have xb := (blk_at (w.alloc (.cells a.A 23)) 23 b.A (sz1 _ _ rfl)).alloc (.cells c.A 23)
  have xc := blk_at ((w.alloc (.cells a.A 23)).alloc (.cells b.A 23)) 23 c.A (sz1 _ _ (sz1 _ _ rfl))
  obtain ⟨ha, hb, hc⟩ := ok3_iff.1 h3
  have ha' := P2.ok_iff.1 ha; have hb' := P2.ok_iff.1 hb; have hc' := P2.ok_iff.1 hc
  have HS := Lib.hid (area_side a b c)
  have m1 := mul_lt (x := b.lo - a.lo) (y := c.la - a.la) (by omega) (by omega)
  have m2 := mul_lt (x := b.la - a.la) (y := c.lo - a.lo) (by omega) (by omega)
  have e1 := Lib.hid (w64b (n := (b.lo - a.lo) * (c.la - a.la)) (by omega))
  have e2 := Lib.hid (w64b (n := (b.la - a.la) * (c.lo - a.lo)) (by omega))
  have e3 := Lib.hid (w64b (n := (b.lo - a.lo) * (c.la - a.la) - (b.la - a.la) * (c.lo - a.lo)) (by omega))
  have a0 := xa.cell 0; have a1 := xa.cell 1; have b0 := xb.cell 0; have b1 := xb.cell 1; have c0 := xc.cell 0; have c1 := xc.cell 1; simp at a0 a1 b0 b1 c0 c1
  clear ha hb hc h3 xa xb xc i0 m1 m2
  go_enter Try.func82, Try.ntmps82
  go_wp2_with fail
  go_ret
  exact ⟨by rw [e1.out, e2.out, e3.out, HS.out]; rfl, i1⟩
set_option maxRecDepth 20000 in
set_option maxHeartbeats 3200000 in
theorem rturn_any (a b c : P2) (w : World) :
    Calls Try.prog 61 #[a.V, b.V, c.V] w fun e w' => e = .returned (.int .i64 (turnV a b c)) ∧ Below w.heap.size w w' := by
  have i0 := BI.start w
  have i1 := (((i0.alloc (.cells a.A 23)).alloc (.cells b.A 23)).alloc (.cells c.A 23)).alloc (.cells (p3 a b c) 23)
  have xa := (((Blk.new w 23 a.A).alloc (.cells b.A 23)).alloc (.cells c.A 23)).alloc (.cells (p3 a b c) 23)
  have xb := ((blk_at (w.alloc (.cells a.A 23)) 23 b.A (sz1 _ _ rfl)).alloc (.cells c.A 23)).alloc (.cells (p3 a b c) 23)
  have xc := (blk_at ((w.alloc (.cells a.A 23)).alloc (.cells b.A 23)) 23 c.A (sz1 _ _ (sz1 _ _ rfl))).alloc (.cells (p3 a b c) 23)
  have xs := blk_at (((w.alloc (.cells a.A 23)).alloc (.cells b.A 23)).alloc (.cells c.A 23)) 23 (p3 a b c) (sz1 _ _ (sz1 _ _ (sz1 _ _ rfl)))
  have hr := rright3 xs
  cases h3 : ok3 a b c
  · have hv : turnV a b c = 0 := by unfold turnV; rw [h3]; rfl
    rw [h3] at hr; rw [hv]; clear hv h3
    go_enter Try.func61, Try.ntmps61
    go_wp2_with fail
    refine hr.mono ?_; rintro e w1 ⟨rfl, hb1⟩
    have i2 := i1.call hb1
    go_wp2_with fail
    go_ret
    exact ⟨rfl, i2⟩
  · have har := fun w => rarea_any a b c w h3
    have hv : turnV a b c = sgn (side a b c) := by unfold turnV; rw [if_pos h3]
    rw [h3] at hr; rw [hv]; clear hv h3
    have HS := Lib.hid (show sgn (side a b c) = if 0 < side a b c then 1 else if side a b c < 0 then -1 else 0 from rfl)
    generalize sgn (side a b c) = G at *
    generalize side a b c = z at *
    go_enter Try.func61, Try.ntmps61
    go_wp2_with fail
    refine hr.mono ?_; rintro e w1 ⟨rfl, hb1⟩
    have i2 := i1.call hb1
    have ya := xa.below hb1 xa.lt
    have yb := xb.below hb1 xb.lt
    have yc := xc.below hb1 xc.lt
    clear xa xb xc xs i1 hr hb1 i0
    go_wp2_with (first | refine wpList_row_g rfl 23 _ rfl _ rfl _ _ _ _ ya Try.underlying23 rfl (by kernel_rfl) ?_ | refine wpList_row_g rfl 23 _ rfl _ rfl _ _ _ _ yb Try.underlying23 rfl (by kernel_rfl) ?_ | refine wpList_row_g rfl 23 _ rfl _ rfl _ _ _ _ yc Try.underlying23 rfl (by kernel_rfl) ?_)
    refine (har _).mono ?_; rintro e w2 ⟨rfl, hb2⟩
    have i3 := i2.call hb2
    replace ya := ya.below hb2 ya.lt; replace yb := yb.below hb2 yb.lt; replace yc := yc.below hb2 yc.lt
    clear i2 hb2
    rcases Int.lt_trichotomy z 0 with g | g | g
    · have g2 : ¬ 0 < z := by omega
      have HG := Lib.hid (show G = -1 by rw [HS.out, if_neg g2, if_pos g])
      go_wp2_with fail
      go_ret
      exact ⟨by rw [HG.out]; rfl, i3⟩
    · have g2 : ¬ 0 < z := by omega
      have g3 : ¬ z < 0 := by omega
      have HG := Lib.hid (show G = 0 by rw [HS.out, if_neg g2, if_neg g3])
      clear g
      go_wp2_with fail
      go_ret
      exact ⟨by rw [HG.out]; rfl, i3⟩
    · have HG := Lib.hid (show G = 1 by rw [HS.out, if_pos g])
      go_wp2_with fail
      go_ret
      exact ⟨by rw [HG.out]; rfl, i3⟩
set_option maxRecDepth 20000 in
set_option maxHeartbeats 3200000 in
theorem rbetween_any (a b c : P2) (w : World) :
    Calls Try.prog 60 #[a.V, b.V, c.V] w fun e w' => e = .returned (.bool (betV a b c)) ∧ Below w.heap.size w w' := by
  rw [← betR_eq]
  have i0 := BI.start w
  have i1 := (((i0.alloc (.cells a.A 23)).alloc (.cells b.A 23)).alloc (.cells c.A 23)).alloc (.cells (p3 a b c) 23)
  have xa := (((Blk.new w 23 a.A).alloc (.cells b.A 23)).alloc (.cells c.A 23)).alloc (.cells (p3 a b c) 23)
  have xb := ((blk_at (w.alloc (.cells a.A 23)) 23 b.A (sz1 _ _ rfl)).alloc (.cells c.A 23)).alloc (.cells (p3 a b c) 23)
  have xc := (blk_at ((w.alloc (.cells a.A 23)).alloc (.cells b.A 23)) 23 c.A (sz1 _ _ (sz1 _ _ rfl))).alloc (.cells (p3 a b c) 23)
  have xs := blk_at (((w.alloc (.cells a.A 23)).alloc (.cells b.A 23)).alloc (.cells c.A 23)) 23 (p3 a b c) (sz1 _ _ (sz1 _ _ (sz1 _ _ rfl)))
  have hr := rright3 xs
  cases h3 : ok3 a b c
  · have hv : betR a b c = false := by unfold betR; rw [h3]; rfl
    rw [h3] at hr; rw [hv]; clear hv h3
    go_enter Try.func60, Try.ntmps60
    go_wp2_with fail
    refine hr.mono ?_; rintro e w1 ⟨rfl, hb1⟩
    have i2 := i1.call hb1
    go_wp2_with fail
    go_ret
    exact ⟨rfl, i2⟩
  · have har := fun w => rarea_any a b c w h3
    have HV := Lib.hid (show betR a b c = (decide (side a b c = 0) && (decide (min a.la c.la ≤ b.la) && (decide (b.la ≤ max a.la c.la) && (decide (min a.lo c.lo ≤ b.lo) && decide (b.lo ≤ max a.lo c.lo))))) by unfold betR; rw [h3]; rfl)
    rw [h3] at hr; clear h3
    have hmn1 := fun (w : World) ts t => run_min2 (P := Try.prog) w ts t a.la c.la; have hmx1 := fun (w : World) ts t => run_max2 (P := Try.prog) w ts t a.la c.la
    have hmn2 := fun (w : World) ts t => run_min2 (P := Try.prog) w ts t a.lo c.lo; have hmx2 := fun (w : World) ts t => run_max2 (P := Try.prog) w ts t a.lo c.lo
    generalize side a b c = z at *
    generalize betR a b c = R at *
    generalize min a.la c.la = m1 at *
    generalize max a.la c.la = m2 at *
    generalize min a.lo c.lo = m3 at *
    generalize max a.lo c.lo = m4 at *
    go_enter Try.func60, Try.ntmps60
    go_wp2_with fail
    refine hr.mono ?_; rintro e w1 ⟨rfl, hb1⟩
    have i2 := i1.call hb1
    have ya := xa.below hb1 xa.lt
    have yb := xb.below hb1 xb.lt
    have yc := xc.below hb1 xc.lt
    clear xa xb xc xs i1 hr hb1 i0
    go_wp2_with (first | refine wpList_row_g rfl 23 _ rfl _ rfl _ _ _ _ ya Try.underlying23 rfl (by kernel_rfl) ?_ | refine wpList_row_g rfl 23 _ rfl _ rfl _ _ _ _ yb Try.underlying23 rfl (by kernel_rfl) ?_ | refine wpList_row_g rfl 23 _ rfl _ rfl _ _ _ _ yc Try.underlying23 rfl (by kernel_rfl) ?_)
    refine (har _).mono ?_; rintro e w2 ⟨rfl, hb2⟩
    have i3 := i2.call hb2
    replace ya := ya.below hb2 ya.lt; replace yb := yb.below hb2 yb.lt; replace yc := yc.below hb2 yc.lt
    clear i2 hb2
    have a0 := ya.cell 0; have a1 := ya.cell 1; have b0 := yb.cell 0; have b1 := yb.cell 1; have c0 := yc.cell 0; have c1 := yc.cell 1; simp at a0 a1 b0 b1 c0 c1
    clear ya yb yc
    by_cases g0 : z = 0
    rotate_left
    · rw [decide_eq_false g0] at HV
      have g : (z != 0) = true := by simp [g0]
      clear g0 hmn1 hmn2 hmx1 hmx2
      go_wp2_with fail
      go_ret
      exact ⟨by rw [HV.out]; rfl, i3⟩
    have g : (z != 0) = false := by simp [g0]
    rw [decide_eq_true g0] at HV
    clear g0
    by_cases g1 : m1 ≤ b.la
    rotate_left
    · rw [decide_eq_false g1] at HV
      go_wp2_with fail
      go_ret
      exact ⟨by rw [HV.out]; rfl, i3⟩
    rw [decide_eq_true g1] at HV
    by_cases g2 : b.la ≤ m2
    rotate_left
    · rw [decide_eq_false g2] at HV
      go_wp2_with fail
      go_ret
      exact ⟨by rw [HV.out]; rfl, i3⟩
    rw [decide_eq_true g2] at HV
    by_cases g3 : m3 ≤ b.lo
    rotate_left
    · rw [decide_eq_false g3] at HV
      go_wp2_with fail
      go_ret
      exact ⟨by rw [HV.out]; rfl, i3⟩
    rw [decide_eq_true g3] at HV
    go_wp2_with fail
    go_ret
    exact ⟨by rw [HV.out]; rfl, i3⟩
end Go.Proofs.Ytoiccljmdplfgaa.Pl
namespace Go.Proofs.Ytoiccljmdplfgaa.Nv
open Go.ChangeShapes Go.WideShapes Go.ChangeAt Go.RowKit
open Go.Proofs.Ytoiccljmdplfgaa
open Go.Proofs.Ytoiccljmdplfgaa.Wd
set_option maxRecDepth 20000 in
set_option maxHeartbeats 6400000 in
theorem rname_any (s : ByteArray) (w : World) (hs : s.size ≤ maxLen) :
    Calls Try.prog 56 #[.string s] w fun e w' => e = .returned (.bool (nmB s)) ∧ w' = w := by
  unfold maxLen at hs
  by_cases hlen : 1 ≤ s.size ∧ s.size ≤ 64
  rotate_left
  · have hE := Lib.hid (nm_len hlen)
    rcases (show (s.size : Int) < 1 ∨ (¬ (s.size : Int) < 1 ∧ (64 : Int) < (s.size : Int)) by omega) with g | ⟨g, g2⟩
    · clear hlen
      go_enter Try.func56, Try.ntmps56
      go_wp2_with fail
      go_ret
      exact ⟨by rw [hE.out]; rfl, rfl⟩
    · clear hlen
      go_enter Try.func56, Try.ntmps56
      go_wp2_with fail
      go_ret
      exact ⟨by rw [hE.out]; rfl, rfl⟩
  have HY := Lib.hid (fun h => nm_yes hlen h)
  go_enter Try.func56, Try.ntmps56
  go_wp2_with fail
  go_loop [3] (fun i => ∃ k : Nat, i = .int .i64 k ∧ k ≤ s.size ∧ (∀ j, j < k → okC j (chr s j) = true)) (fun i => s.size - (intOf i).toNat)
  case atStart => exact ⟨0, rfl, Nat.zero_le _, fun _ h => absurd h (Nat.not_lt_zero _)⟩
  case round =>
    obtain ⟨k, rfl, hk, hall⟩ := hrel
    have HA := Lib.hid hall; clear hall
    by_cases hlt : k < s.size
    · have hlt' : (k : Int) < (s.size : Int) := by omega
      have HNo := Lib.hid (fun h => nm_no hlt h)
      have HYs := Lib.hid (fun (h : okC k (chr s k) = true) j (hj : j < k + 1) => (show okC j (chr s j) = true by
        by_cases e : j = k
        · rw [e]; exact h
        · exact HA.out j (by omega)))
      obtain ⟨z0, z1⟩ := chr_bd s k
      have hz := chr_at hlt
      rw [← hz] at HNo HYs z0 z1
      clear hz HA HY
      rcases (show ((s[k].toNat : Int) ≤ 42) ∨ ((s[k].toNat : Int) = 43) ∨ ((s[k].toNat : Int) = 44) ∨ ((s[k].toNat : Int) = 45) ∨ ((s[k].toNat : Int) = 46) ∨ ((s[k].toNat : Int) = 47) ∨ (48 ≤ (s[k].toNat : Int) ∧ (s[k].toNat : Int) ≤ 57) ∨ (58 ≤ (s[k].toNat : Int) ∧ (s[k].toNat : Int) ≤ 64) ∨ (65 ≤ (s[k].toNat : Int) ∧ (s[k].toNat : Int) ≤ 90) ∨ (91 ≤ (s[k].toNat : Int) ∧ (s[k].toNat : Int) ≤ 94) ∨ ((s[k].toNat : Int) = 95) ∨ ((s[k].toNat : Int) = 96) ∨ (97 ≤ (s[k].toNat : Int) ∧ (s[k].toNat : Int) ≤ 122) ∨ (123 ≤ (s[k].toNat : Int)) by omega) with g | g | g | g | g | g | g | g | g | g | g | g | g | g
      · -- z ≤ 42
        have : ¬ 97 ≤ (s[k].toNat : Int) := by omega
        have : (s[k].toNat : Int) ≤ 122 := by omega
        have : ¬ 65 ≤ (s[k].toNat : Int) := by omega
        have : (s[k].toNat : Int) ≤ 90 := by omega
        have : ¬ 48 ≤ (s[k].toNat : Int) := by omega
        have : (s[k].toNat : Int) ≤ 57 := by omega
        have : ((s[k].toNat : Int) == 95) = false := by simp; omega
        have : ((s[k].toNat : Int) == 43) = false := by simp; omega
        have : ((s[k].toNat : Int) == 45) = false := by simp; omega
        have : ((s[k].toNat : Int) == 47) = false := by simp; omega
        have hE := Lib.hid (HNo.out (by unfold okC; simp; omega))
        clear HYs HNo g
        go_wp2_with fail
        all_goals
          go_ret
          exact ⟨by rw [hE.out]; rfl, rfl⟩
      · -- z = 43
        have : ¬ 97 ≤ (s[k].toNat : Int) := by omega
        have : (s[k].toNat : Int) ≤ 122 := by omega
        have : ¬ 65 ≤ (s[k].toNat : Int) := by omega
        have : (s[k].toNat : Int) ≤ 90 := by omega
        have : ¬ 48 ≤ (s[k].toNat : Int) := by omega
        have : (s[k].toNat : Int) ≤ 57 := by omega
        have : ((s[k].toNat : Int) == 95) = false := by simp; omega
        have : ((s[k].toNat : Int) == 43) = true := by simp; omega
        have : ((s[k].toNat : Int) == 45) = false := by simp; omega
        have : ((s[k].toNat : Int) == 47) = false := by simp; omega
        by_cases hk0 : k = 0
        · have hE := Lib.hid (HNo.out (by unfold okC; rw [decide_eq_false (show ¬ k ≠ 0 by omega), Bool.and_false, Bool.or_false]; exact decide_eq_false (by omega)))
          have hkb : ((k : Int) == 0) = true := by simp [hk0]
          clear HYs HNo g hk0
          go_wp2_with fail
          go_ret
          exact ⟨by rw [hE.out]; rfl, rfl⟩
        · have hY := Lib.hid (HYs.out (by unfold okC; simp [hk0]; omega))
          have hkb : ((k : Int) == 0) = false := by simp [hk0]
          clear HYs HNo g hk0
          go_wp2_with fail
          go_round
          case rel => exact ⟨k + 1, by go_num, by omega, hY.out⟩
          case measure => simp [intOf]; omega
      · -- z = 44
        have : ¬ 97 ≤ (s[k].toNat : Int) := by omega
        have : (s[k].toNat : Int) ≤ 122 := by omega
        have : ¬ 65 ≤ (s[k].toNat : Int) := by omega
        have : (s[k].toNat : Int) ≤ 90 := by omega
        have : ¬ 48 ≤ (s[k].toNat : Int) := by omega
        have : (s[k].toNat : Int) ≤ 57 := by omega
        have : ((s[k].toNat : Int) == 95) = false := by simp; omega
        have : ((s[k].toNat : Int) == 43) = false := by simp; omega
        have : ((s[k].toNat : Int) == 45) = false := by simp; omega
        have : ((s[k].toNat : Int) == 47) = false := by simp; omega
        have hE := Lib.hid (HNo.out (by unfold okC; simp; omega))
        clear HYs HNo g
        go_wp2_with fail
        all_goals
          go_ret
          exact ⟨by rw [hE.out]; rfl, rfl⟩
      · -- z = 45
        have : ¬ 97 ≤ (s[k].toNat : Int) := by omega
        have : (s[k].toNat : Int) ≤ 122 := by omega
        have : ¬ 65 ≤ (s[k].toNat : Int) := by omega
        have : (s[k].toNat : Int) ≤ 90 := by omega
        have : ¬ 48 ≤ (s[k].toNat : Int) := by omega
        have : (s[k].toNat : Int) ≤ 57 := by omega
        have : ((s[k].toNat : Int) == 95) = false := by simp; omega
        have : ((s[k].toNat : Int) == 43) = false := by simp; omega
        have : ((s[k].toNat : Int) == 45) = true := by simp; omega
        have : ((s[k].toNat : Int) == 47) = false := by simp; omega
        by_cases hk0 : k = 0
        · have hE := Lib.hid (HNo.out (by unfold okC; rw [decide_eq_false (show ¬ k ≠ 0 by omega), Bool.and_false, Bool.or_false]; exact decide_eq_false (by omega)))
          have hkb : ((k : Int) == 0) = true := by simp [hk0]
          clear HYs HNo g hk0
          go_wp2_with fail
          go_ret
          exact ⟨by rw [hE.out]; rfl, rfl⟩
        · have hY := Lib.hid (HYs.out (by unfold okC; simp [hk0]; omega))
          have hkb : ((k : Int) == 0) = false := by simp [hk0]
          clear HYs HNo g hk0
          go_wp2_with fail
          go_round
          case rel => exact ⟨k + 1, by go_num, by omega, hY.out⟩
          case measure => simp [intOf]; omega
      · -- z = 46
        have : ¬ 97 ≤ (s[k].toNat : Int) := by omega
        have : (s[k].toNat : Int) ≤ 122 := by omega
        have : ¬ 65 ≤ (s[k].toNat : Int) := by omega
        have : (s[k].toNat : Int) ≤ 90 := by omega
        have : ¬ 48 ≤ (s[k].toNat : Int) := by omega
        have : (s[k].toNat : Int) ≤ 57 := by omega
        have : ((s[k].toNat : Int) == 95) = false := by simp; omega
        have : ((s[k].toNat : Int) == 43) = false := by simp; omega
        have : ((s[k].toNat : Int) == 45) = false := by simp; omega
        have : ((s[k].toNat : Int) == 47) = false := by simp; omega
        have hE := Lib.hid (HNo.out (by unfold okC; simp; omega))
        clear HYs HNo g
        go_wp2_with fail
        all_goals
          go_ret
          exact ⟨by rw [hE.out]; rfl, rfl⟩
      · -- z = 47
        have : ¬ 97 ≤ (s[k].toNat : Int) := by omega
        have : (s[k].toNat : Int) ≤ 122 := by omega
        have : ¬ 65 ≤ (s[k].toNat : Int) := by omega
        have : (s[k].toNat : Int) ≤ 90 := by omega
        have : ¬ 48 ≤ (s[k].toNat : Int) := by omega
        have : (s[k].toNat : Int) ≤ 57 := by omega
        have : ((s[k].toNat : Int) == 95) = false := by simp; omega
        have : ((s[k].toNat : Int) == 43) = false := by simp; omega
        have : ((s[k].toNat : Int) == 45) = false := by simp; omega
        have : ((s[k].toNat : Int) == 47) = true := by simp; omega
        by_cases hk0 : k = 0
        · have hE := Lib.hid (HNo.out (by unfold okC; rw [decide_eq_false (show ¬ k ≠ 0 by omega), Bool.and_false, Bool.or_false]; exact decide_eq_false (by omega)))
          have hkb : ((k : Int) == 0) = true := by simp [hk0]
          clear HYs HNo g hk0
          go_wp2_with fail
          go_ret
          exact ⟨by rw [hE.out]; rfl, rfl⟩
        · have hY := Lib.hid (HYs.out (by unfold okC; simp [hk0]; omega))
          have hkb : ((k : Int) == 0) = false := by simp [hk0]
          clear HYs HNo g hk0
          go_wp2_with fail
          go_round
          case rel => exact ⟨k + 1, by go_num, by omega, hY.out⟩
          case measure => simp [intOf]; omega
      · -- 48 ≤ z ∧ z ≤ 57
        have : ¬ 97 ≤ (s[k].toNat : Int) := by omega
        have : (s[k].toNat : Int) ≤ 122 := by omega
        have : ¬ 65 ≤ (s[k].toNat : Int) := by omega
        have : (s[k].toNat : Int) ≤ 90 := by omega
        have : 48 ≤ (s[k].toNat : Int) := by omega
        have : (s[k].toNat : Int) ≤ 57 := by omega
        have : ((s[k].toNat : Int) == 95) = false := by simp; omega
        have : ((s[k].toNat : Int) == 43) = false := by simp; omega
        have : ((s[k].toNat : Int) == 45) = false := by simp; omega
        have : ((s[k].toNat : Int) == 47) = false := by simp; omega
        by_cases hk0 : k = 0
        · have hE := Lib.hid (HNo.out (by unfold okC; rw [decide_eq_false (show ¬ k ≠ 0 by omega), Bool.and_false, Bool.or_false]; exact decide_eq_false (by omega)))
          have hkb : ((k : Int) == 0) = true := by simp [hk0]
          clear HYs HNo g hk0
          go_wp2_with fail
          go_ret
          exact ⟨by rw [hE.out]; rfl, rfl⟩
        · have hY := Lib.hid (HYs.out (by unfold okC; simp [hk0]; omega))
          have hkb : ((k : Int) == 0) = false := by simp [hk0]
          clear HYs HNo g hk0
          go_wp2_with fail
          go_round
          case rel => exact ⟨k + 1, by go_num, by omega, hY.out⟩
          case measure => simp [intOf]; omega
      · -- 58 ≤ z ∧ z ≤ 64
        have : ¬ 97 ≤ (s[k].toNat : Int) := by omega
        have : (s[k].toNat : Int) ≤ 122 := by omega
        have : ¬ 65 ≤ (s[k].toNat : Int) := by omega
        have : (s[k].toNat : Int) ≤ 90 := by omega
        have : 48 ≤ (s[k].toNat : Int) := by omega
        have : ¬ (s[k].toNat : Int) ≤ 57 := by omega
        have : ((s[k].toNat : Int) == 95) = false := by simp; omega
        have : ((s[k].toNat : Int) == 43) = false := by simp; omega
        have : ((s[k].toNat : Int) == 45) = false := by simp; omega
        have : ((s[k].toNat : Int) == 47) = false := by simp; omega
        have hE := Lib.hid (HNo.out (by unfold okC; simp; omega))
        clear HYs HNo g
        go_wp2_with fail
        all_goals
          go_ret
          exact ⟨by rw [hE.out]; rfl, rfl⟩
      · -- 65 ≤ z ∧ z ≤ 90
        have : ¬ 97 ≤ (s[k].toNat : Int) := by omega
        have : (s[k].toNat : Int) ≤ 122 := by omega
        have : 65 ≤ (s[k].toNat : Int) := by omega
        have : (s[k].toNat : Int) ≤ 90 := by omega
        have : 48 ≤ (s[k].toNat : Int) := by omega
        have : ¬ (s[k].toNat : Int) ≤ 57 := by omega
        have : ((s[k].toNat : Int) == 95) = false := by simp; omega
        have : ((s[k].toNat : Int) == 43) = false := by simp; omega
        have : ((s[k].toNat : Int) == 45) = false := by simp; omega
        have : ((s[k].toNat : Int) == 47) = false := by simp; omega
        have hY := Lib.hid (HYs.out (by unfold okC; simp; omega))
        clear HYs HNo g
        go_wp2_with fail
        go_round
        case rel => exact ⟨k + 1, by go_num, by omega, hY.out⟩
        case measure => simp [intOf]; omega
      · -- 91 ≤ z ∧ z ≤ 94
        have : ¬ 97 ≤ (s[k].toNat : Int) := by omega
        have : (s[k].toNat : Int) ≤ 122 := by omega
        have : 65 ≤ (s[k].toNat : Int) := by omega
        have : ¬ (s[k].toNat : Int) ≤ 90 := by omega
        have : 48 ≤ (s[k].toNat : Int) := by omega
        have : ¬ (s[k].toNat : Int) ≤ 57 := by omega
        have : ((s[k].toNat : Int) == 95) = false := by simp; omega
        have : ((s[k].toNat : Int) == 43) = false := by simp; omega
        have : ((s[k].toNat : Int) == 45) = false := by simp; omega
        have : ((s[k].toNat : Int) == 47) = false := by simp; omega
        have hE := Lib.hid (HNo.out (by unfold okC; simp; omega))
        clear HYs HNo g
        go_wp2_with fail
        all_goals
          go_ret
          exact ⟨by rw [hE.out]; rfl, rfl⟩
      · -- z = 95
        have : ¬ 97 ≤ (s[k].toNat : Int) := by omega
        have : (s[k].toNat : Int) ≤ 122 := by omega
        have : 65 ≤ (s[k].toNat : Int) := by omega
        have : ¬ (s[k].toNat : Int) ≤ 90 := by omega
        have : 48 ≤ (s[k].toNat : Int) := by omega
        have : ¬ (s[k].toNat : Int) ≤ 57 := by omega
        have : ((s[k].toNat : Int) == 95) = true := by simp; omega
        have : ((s[k].toNat : Int) == 43) = false := by simp; omega
        have : ((s[k].toNat : Int) == 45) = false := by simp; omega
        have : ((s[k].toNat : Int) == 47) = false := by simp; omega
        have hY := Lib.hid (HYs.out (by unfold okC; simp; omega))
        clear HYs HNo g
        go_wp2_with fail
        go_round
        case rel => exact ⟨k + 1, by go_num, by omega, hY.out⟩
        case measure => simp [intOf]; omega
      · -- z = 96
        have : ¬ 97 ≤ (s[k].toNat : Int) := by omega
        have : (s[k].toNat : Int) ≤ 122 := by omega
        have : 65 ≤ (s[k].toNat : Int) := by omega
        have : ¬ (s[k].toNat : Int) ≤ 90 := by omega
        have : 48 ≤ (s[k].toNat : Int) := by omega
        have : ¬ (s[k].toNat : Int) ≤ 57 := by omega
        have : ((s[k].toNat : Int) == 95) = false := by simp; omega
        have : ((s[k].toNat : Int) == 43) = false := by simp; omega
        have : ((s[k].toNat : Int) == 45) = false := by simp; omega
        have : ((s[k].toNat : Int) == 47) = false := by simp; omega
        have hE := Lib.hid (HNo.out (by unfold okC; simp; omega))
        clear HYs HNo g
        go_wp2_with fail
        all_goals
          go_ret
          exact ⟨by rw [hE.out]; rfl, rfl⟩
      · -- 97 ≤ z ∧ z ≤ 122
        have : 97 ≤ (s[k].toNat : Int) := by omega
        have : (s[k].toNat : Int) ≤ 122 := by omega
        have : 65 ≤ (s[k].toNat : Int) := by omega
        have : ¬ (s[k].toNat : Int) ≤ 90 := by omega
        have : 48 ≤ (s[k].toNat : Int) := by omega
        have : ¬ (s[k].toNat : Int) ≤ 57 := by omega
        have : ((s[k].toNat : Int) == 95) = false := by simp; omega
        have : ((s[k].toNat : Int) == 43) = false := by simp; omega
        have : ((s[k].toNat : Int) == 45) = false := by simp; omega
        have : ((s[k].toNat : Int) == 47) = false := by simp; omega
        have hY := Lib.hid (HYs.out (by unfold okC; simp; omega))
        clear HYs HNo g
        go_wp2_with fail
        go_round
        case rel => exact ⟨k + 1, by go_num, by omega, hY.out⟩
        case measure => simp [intOf]; omega
      · -- 123 ≤ z
        have : 97 ≤ (s[k].toNat : Int) := by omega
        have : ¬ (s[k].toNat : Int) ≤ 122 := by omega
        have : 65 ≤ (s[k].toNat : Int) := by omega
        have : ¬ (s[k].toNat : Int) ≤ 90 := by omega
        have : 48 ≤ (s[k].toNat : Int) := by omega
        have : ¬ (s[k].toNat : Int) ≤ 57 := by omega
        have : ((s[k].toNat : Int) == 95) = false := by simp; omega
        have : ((s[k].toNat : Int) == 43) = false := by simp; omega
        have : ((s[k].toNat : Int) == 45) = false := by simp; omega
        have : ((s[k].toNat : Int) == 47) = false := by simp; omega
        have hE := Lib.hid (HNo.out (by unfold okC; simp; omega))
        clear HYs HNo g
        go_wp2_with fail
        all_goals
          go_ret
          exact ⟨by rw [hE.out]; rfl, rfl⟩
    · have hlt' : ¬ (k : Int) < (s.size : Int) := by omega
      have hE := Lib.hid (HY.out (fun j hj => HA.out j (by omega)))
      clear HY HA
      go_wp2_with fail
      go_ret
      exact ⟨by rw [hE.out]; rfl, rfl⟩
end Go.Proofs.Ytoiccljmdplfgaa.Nv
