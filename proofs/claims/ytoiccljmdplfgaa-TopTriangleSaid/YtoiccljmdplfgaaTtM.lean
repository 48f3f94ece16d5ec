/-
  THE MIDDLE OF TWO POINTS, in plain Lean.
-/
import Derived.Test.YtoiccljmdplfgaaPtM
namespace Go.Proofs.Ytoiccljmdplfgaa.Pl
set_option linter.unusedVariables false
def mid (a b : P2) : P2 := ⟨(a.la + b.la).tdiv 2, (a.lo + b.lo).tdiv 2⟩
theorem td2 (z : Int) : z - 1 ≤ 2 * z.tdiv 2 ∧ 2 * z.tdiv 2 ≤ z + 1 ∧ (0 ≤ z → 2 * z.tdiv 2 ≤ z) ∧ (z ≤ 0 → z ≤ 2 * z.tdiv 2) := by
  have h := Int.tmod_add_tdiv_mul z 2
  have h1 : (z.tmod 2).natAbs < 2 := by rw [Int.natAbs_tmod]; exact Nat.mod_lt _ (by decide)
  refine ⟨by omega, by omega, fun h0 => ?_, fun h0 => ?_⟩
  · have := Int.tmod_nonneg 2 h0; omega
  · have := Int.tmod_nonneg 2 (show 0 ≤ -z by omega)
    rw [Int.neg_tmod] at this; omega
theorem mid_ok {a b : P2} (ha : a.ok = true) (hb : b.ok = true) : (mid a b).ok = true := by
  have ha' := P2.ok_iff.1 ha
  have hb' := P2.ok_iff.1 hb
  obtain ⟨x1, x2, _, _⟩ := td2 (a.la + b.la)
  obtain ⟨y1, y2, _, _⟩ := td2 (a.lo + b.lo)
  refine P2.ok_iff.2 ⟨?_, ?_, ?_, ?_⟩ <;> show _ <;> simp only [mid] <;> omega
theorem mid_back (a b : P2) : mid b a = mid a b := by unfold mid; rw [Int.add_comm b.la, Int.add_comm b.lo]
theorem gap_mid (x y : Int) : gap ((x + y).tdiv 2 - x) ≤ gap (x - y) := by
  obtain ⟨x1, x2, x3, x4⟩ := td2 (x + y)
  unfold gap
  split <;> split <;> omega
theorem gap_sq (d : Int) : d * d = gap d * gap d := by
  unfold gap; split
  · rw [Int.neg_mul_neg]
  · rfl
theorem gap_nn (d : Int) : 0 ≤ gap d := by unfold gap; split <;> omega
theorem mid_near {a b : P2} (ha : a.ok = true) (hb : b.ok = true) (h : -648000 < a.lo - b.lo) (h2 : a.lo - b.lo < 648000) : distV (mid a b) a ≤ distV a b := by
  have g1 := gap_mid a.la b.la
  have g2 := gap_mid a.lo b.lo
  have n1 := gap_nn ((a.la + b.la).tdiv 2 - a.la)
  have n2 := gap_nn ((a.lo + b.lo).tdiv 2 - a.lo)
  have hg : gap (a.lo - b.lo) < 648000 := by unfold gap; split <;> omega
  unfold distV
  rw [mid_ok ha hb, ha, hb, Bool.and_self, if_pos rfl, if_pos rfl]
  have l1 : lon ((mid a b).lo - a.lo) = gap ((a.lo + b.lo).tdiv 2 - a.lo) := by
    show min (gap ((a.lo + b.lo).tdiv 2 - a.lo)) _ = _
    show min (gap ((a.lo + b.lo).tdiv 2 - a.lo)) (1296000 - gap ((a.lo + b.lo).tdiv 2 - a.lo)) = _
    omega
  have l2 : lon (a.lo - b.lo) = gap (a.lo - b.lo) := by unfold lon; omega
  rw [l1, l2, gap_sq ((mid a b).la - a.la), gap_sq (a.la - b.la)]
  have s1 : gap ((a.la + b.la).tdiv 2 - a.la) * gap ((a.la + b.la).tdiv 2 - a.la) ≤ gap (a.la - b.la) * gap (a.la - b.la) := Int.mul_le_mul g1 g1 n1 (gap_nn _)
  have s2 : gap ((a.lo + b.lo).tdiv 2 - a.lo) * gap ((a.lo + b.lo).tdiv 2 - a.lo) ≤ gap (a.lo - b.lo) * gap (a.lo - b.lo) := Int.mul_le_mul g2 g2 n2 (gap_nn _)
  exact Int.add_le_add s1 s2
end Go.Proofs.Ytoiccljmdplfgaa.Pl
