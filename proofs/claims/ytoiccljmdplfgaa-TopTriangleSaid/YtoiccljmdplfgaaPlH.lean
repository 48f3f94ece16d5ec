/-
  DOUBLES AS HALVES OF WHOLE NUMBERS: a whole number below 2^52, divided by two, and cut.
-/
import Derived.Test.YtoiccljmdplfgaaPlF
namespace Go.Proofs.Ytoiccljmdplfgaa.Flo
open Ieee
set_option linter.unusedVariables false
set_option linter.unusedSimpArgs false
/-- a datum stands for half the integer n -/
def IsE (d : Datum) (n : Int) : Prop :=
  ∃ (s : Bool) (k : Nat), d = .number s (n.natAbs * 2 ^ k) (-((k + 1 : Nat) : Int)) ∧ (n ≠ 0 → s = decide (n < 0))
theorem nearest_half (s : Bool) (n : Nat) (k : Nat) (h0 : n ≠ 0) (h : n < 2 ^ 53) :
    double.nearest s (n * 2 ^ k) (-((k + 1 : Nat) : Int)) = double.word s ((n.log2 + 1021) * 2 ^ 52 + n * 2 ^ (52 - n.log2)) := by
  have hl := log2_le_of_lt n h h0
  have hm0 : n * 2 ^ k ≠ 0 := Nat.mul_ne_zero h0 (Nat.pos_iff_ne_zero.1 (Nat.two_pow_pos _))
  have hlog : -((k + 1 : Nat) : Int) + ((n * 2 ^ k).log2 : Int) = (n.log2 : Int) - 1 := by rw [log2_mul_pow n _ h0]; omega
  have hb := log2_bd n h0
  have hlp : double.leastPlace = -1074 := by decide
  have hfb : (double.fractionBits : Int) = 52 := rfl
  have hbin : double.binade = 2 ^ 52 := rfl
  unfold Format.nearest
  rw [if_neg hm0]
  simp only [hlp, hfb, hlog]
  have hlast : max ((n.log2 : Int) - 1 - 52) (-1074) = n.log2 - 53 := by omega
  rw [hlast]
  have hkept : Toward.even.cut s ((n * 2 ^ k) <<< (-((k + 1 : Nat) : Int) - ((n.log2 : Int) - 53)).toNat) (((n.log2 : Int) - 53) - -((k + 1 : Nat) : Int)).toNat = n * 2 ^ (52 - n.log2) := by
    rw [Nat.shiftLeft_eq]
    rcases Int.lt_or_le (-((k + 1 : Nat) : Int)) ((n.log2 : Int) - 53) with g2 | g2
    · have e1 : (-((k + 1 : Nat) : Int) - ((n.log2 : Int) - 53)).toNat = 0 := by omega
      have e2 : k = (52 - n.log2) + (((n.log2 : Int) - 53) - -((k + 1 : Nat) : Int)).toNat := by omega
      rw [e1, Nat.pow_zero, Nat.mul_one]
      generalize (((n.log2 : Int) - 53) - -((k + 1 : Nat) : Int)).toNat = d at *
      rw [e2, Nat.pow_add, ← Nat.mul_assoc]
      exact cut_exact s _ _ (Nat.mul_ne_zero h0 (Nat.pos_iff_ne_zero.1 (Nat.two_pow_pos _)))
    · have e1 : (((n.log2 : Int) - 53) - -((k + 1 : Nat) : Int)).toNat = 0 := by omega
      rw [e1, cut_zero, Nat.mul_assoc, ← Nat.pow_add]
      congr 2; omega
  rw [hkept, hbin]
  have e3 : ((n.log2 : Int) - 53 - -1074).toNat = n.log2 + 1021 := by omega
  rw [e3]
  have hinf : double.infRung = 2047 * 2 ^ 52 := by decide
  rw [hinf]
  have hk2 : n * 2 ^ (52 - n.log2) < 2 ^ 53 := by
    have a := Nat.mul_lt_mul_of_pos_right hb.2 (Nat.two_pow_pos (52 - n.log2))
    rw [← Nat.pow_add] at a
    have e4 : n.log2 + 1 + (52 - n.log2) = 53 := by omega
    rwa [e4] at a
  congr 1
  exact Nat.min_eq_left (by omega)
theorem rung_half (L q : Nat) (hL : L ≤ 52) (q1 : 2 ^ 52 ≤ q) (q2 : q < 2 ^ 53) :
    (L + 1021) * 2 ^ 52 + q < 2 ^ 63 ∧ ¬ (L + 1021) * 2 ^ 52 + q < 2 ^ 52 ∧ (L + 1021) * 2 ^ 52 + q < 2047 * 2 ^ 52 ∧ 2 ^ 52 + ((L + 1021) * 2 ^ 52 + q) % 2 ^ 52 = q ∧ (-1074 : Int) + (((L + 1021) * 2 ^ 52 + q) / 2 ^ 52 - 1 : Nat) = -((52 - L + 1 : Nat) : Int) := by
  refine ⟨by omega, by omega, by omega, by omega, by omega⟩
theorem read_half (s : Bool) (n : Nat) (h0 : n ≠ 0) (h : n < 2 ^ 53) :
    double.read (double.word s ((n.log2 + 1021) * 2 ^ 52 + n * 2 ^ (52 - n.log2))) = .number s (n * 2 ^ (52 - n.log2)) (-((52 - n.log2 + 1 : Nat) : Int)) := by
  have hl := log2_le_of_lt n h h0
  have hb := log2_bd n h0
  obtain ⟨q, hq⟩ : ∃ q, q = n * 2 ^ (52 - n.log2) := ⟨_, rfl⟩
  have q1 : 2 ^ 52 ≤ q := by
    have a := Nat.mul_le_mul_right (2 ^ (52 - n.log2)) hb.1
    rw [← Nat.pow_add] at a
    have e4 : n.log2 + (52 - n.log2) = 52 := by omega
    rw [e4] at a; omega
  have q2 : q < 2 ^ 53 := by
    have a := Nat.mul_lt_mul_of_pos_right hb.2 (Nat.two_pow_pos (52 - n.log2))
    rw [← Nat.pow_add] at a
    have e4 : n.log2 + 1 + (52 - n.log2) = 53 := by omega
    rw [e4] at a; omega
  rw [← hq]
  have hsw : double.signWeight = 2 ^ 63 := by decide
  have hinf : double.infRung = 2047 * 2 ^ 52 := by decide
  have hbin : double.binade = 2 ^ 52 := rfl
  have hlp : double.leastPlace = -1074 := by decide
  obtain ⟨r1, r2, r3, r4, r5⟩ := rung_half n.log2 q hl q1 q2
  obtain ⟨w1, w2⟩ := word_mod s ((n.log2 + 1021) * 2 ^ 52 + q) r1
  unfold Format.read
  simp only [hsw, hinf, hbin, hlp, w1, w2]
  rw [if_neg r2, if_pos r3, r4, r5]
/-- what is written of a half is read as it -/
theorem write_half {d : Datum} {n : Int} (hd : IsE d n) (h : n.natAbs < 2 ^ 53) : IsE (double.read (double.write d)) n ∨ n = 0 ∧ Is (double.write d) 0 := by
  obtain ⟨s, k, rfl, hs⟩ := hd
  by_cases h0 : n = 0
  · subst h0
    refine Or.inr ⟨rfl, ?_⟩
    have : double.write (.number s ((0 : Int).natAbs * 2 ^ k) (-((k + 1 : Nat) : Int))) = double.word s 0 := by
      show double.nearest _ _ _ = _
      unfold Format.nearest; rw [if_pos (by simp)]
    rw [this]
    obtain ⟨z, hz⟩ : ∃ z : Nat, double.read (double.word s 0) = .number s 0 (-(z : Int)) := ⟨1074, read_zero s⟩
    exact ⟨⟨s, z, by rw [hz, Int.natAbs_zero, Nat.zero_mul], fun q => absurd rfl q⟩, word_lt s 0 (by omega)⟩
  · left
    have hn : n.natAbs ≠ 0 := by omega
    show IsE (double.read (double.nearest s _ _)) n
    rw [nearest_half s n.natAbs k hn h]
    exact ⟨s, 52 - n.natAbs.log2, read_half s n.natAbs hn h, hs⟩
theorem toInt_half {d : Datum} {n : Int} (hd : IsE d n) : d.toInt .zero = some (n.tdiv 2) := by
  obtain ⟨s, i, rfl, hs⟩ := hd
  have e1 : (-((i + 1 : Nat) : Int)).toNat = 0 := by omega
  have e2 : (-(-((i + 1 : Nat) : Int))).toNat = i + 1 := by omega
  have hc : Toward.zero.cut s (n.natAbs * 2 ^ i) (i + 1) = n.natAbs / 2 := by
    by_cases h0 : n.natAbs = 0
    · rw [h0]; simp [Toward.cut]
    · unfold Toward.cut
      have hl : (n.natAbs * 2 ^ i).log2 = n.natAbs.log2 + i := log2_mul_pow _ i h0
      have hm : min (i + 1) ((n.natAbs * 2 ^ i).log2 + 2) = i + 1 := by rw [hl]; omega
      have hd : n.natAbs * 2 ^ i / 2 ^ (i + 1) = n.natAbs / 2 := by
        rw [Nat.pow_succ, Nat.mul_comm (2 ^ i) 2, Nat.mul_div_mul_right _ _ (Nat.two_pow_pos i)]
      simp only [hm, Nat.one_shiftLeft, hd]
      simp
  simp only [Datum.toInt, Datum.integral, e1, e2, Nat.shiftLeft_zero, hc]
  congr 1
  unfold signed
  simp only [Nat.shiftLeft_zero]
  by_cases h0 : n = 0
  · subst h0; simp
  · rw [hs h0]
    rcases Int.lt_or_le n 0 with hn | hn
    · simp only [hn, decide_true, if_true]
      obtain ⟨m, rfl⟩ : ∃ m : Nat, n = -(m : Int) := ⟨n.natAbs, by omega⟩
      rw [Int.natAbs_neg, Int.natAbs_natCast, Int.neg_tdiv]
      congr 1
    · have : ¬ n < 0 := by omega
      simp only [this, decide_false, Bool.false_eq_true, if_false]
      obtain ⟨m, rfl⟩ : ∃ m : Nat, n = (m : Int) := ⟨n.natAbs, by omega⟩
      rfl
/-- the digits that are read of a word -/
theorem read_lt {x : Nat} {s : Bool} {m : Nat} {p : Int} (h : double.read x = .number s m p) : m < 2 ^ 53 := by
  have hsw : double.signWeight = 2 ^ 63 := by decide
  have hinf : double.infRung = 2047 * 2 ^ 52 := by decide
  have hbin : double.binade = 2 ^ 52 := rfl
  unfold Format.read at h
  simp only [hsw, hinf, hbin] at h
  split at h
  · injection h with _ h2 _; omega
  · split at h
    · injection h with _ h2 _; omega
    · split at h <;> cases h
theorem read_2 : double.read 4611686018427387904 = .number false (2 ^ 52) (-51) := by decide
/-- A WHOLE NUMBER, DIVIDED BY TWO, AND CUT -/
theorem half_Is {x : Nat} {a : Int} (hx : Is x a) (h : a.natAbs < 2 ^ 53) : ∃ u, double.div x 4611686018427387904 = some u ∧ (double.read u).toInt .zero = some (a.tdiv 2) := by
  obtain ⟨⟨s, k, e, hs⟩, hlt⟩ := hx
  have hm := read_lt e
  have q : ∃ d, Datum.quotient 54 (double.read x) (double.read 4611686018427387904) = some d ∧ IsE d a := by
    rw [e, read_2]
    obtain ⟨m, hmm⟩ : ∃ m, m = a.natAbs * 2 ^ k := ⟨_, rfl⟩
    rw [← hmm] at hm ⊢
    have hl : m.log2 ≤ 52 := by
      by_cases h0 : m = 0
      · subst h0; decide
      · exact log2_le_of_lt m hm h0
    have hlog : (2 ^ 52 : Nat).log2 = 52 := by decide
    unfold Datum.quotient
    simp only [hlog]
    rw [if_neg (by decide)]
    obtain ⟨t, ht⟩ : ∃ t, 54 + 52 - m.log2 = t + 52 := ⟨54 - m.log2, by omega⟩
    rw [ht]
    have hd : m <<< (t + 52) / 2 ^ 52 = m * 2 ^ t := by
      rw [Nat.shiftLeft_eq, Nat.pow_add, ← Nat.mul_assoc, Nat.mul_div_cancel _ (Nat.two_pow_pos 52)]
    have hr : m <<< (t + 52) % 2 ^ 52 = 0 := by
      rw [Nat.shiftLeft_eq, Nat.pow_add, ← Nat.mul_assoc, Nat.mul_mod_left]
    rw [hd, hr]
    refine ⟨_, rfl, s, k + t + 1, ?_, hs⟩
    have e3 : 2 * (m * 2 ^ t) + ((0 : Nat) != 0).toNat = a.natAbs * 2 ^ (k + t + 1) := by
      rw [hmm, Nat.pow_succ, Nat.pow_add]
      show 2 * (a.natAbs * 2 ^ k * 2 ^ t) + 0 = _
      rw [Nat.add_zero, Nat.mul_assoc, Nat.mul_comm 2, Nat.mul_assoc]
    have e4 : -(k : Int) - -51 - ((t + 52 : Nat) : Int) - 1 = -((k + t + 1 + 1 : Nat) : Int) := by omega
    rw [e3, e4]; simp
  obtain ⟨d, hd, hE⟩ := q
  refine ⟨double.write d, ?_, ?_⟩
  · unfold Format.div
    rw [show double.fractionBits + 2 = 54 from rfl, hd]; rfl
  · rcases write_half hE h with h1 | ⟨h1, h2⟩
    · exact toInt_half h1
    · subst h1; rw [toInt_Is h2]; rfl
theorem half_int {x : Nat} {a : Int} (hx : Is x a) (h : a.natAbs < 2 ^ 53) : ∃ u, floatBits .quo .f64 x 4611686018427387904 = some u ∧ floatToIntVal .f64 u .i64 = some (a.tdiv 2) := by
  obtain ⟨u, hu, hi⟩ := half_Is hx h
  refine ⟨u, hu, ?_⟩
  unfold floatToIntVal
  have e : (FloatKind.f64.decode u).toInt .zero = some (a.tdiv 2) := hi
  rw [e]
  have hb : (a.tdiv 2).natAbs ≤ a.natAbs := by rw [Int.natAbs_tdiv]; exact Nat.div_le_self _ _
  have : IntKind.min .i64 ≤ a.tdiv 2 ∧ a.tdiv 2 ≤ IntKind.max .i64 := by
    show -9223372036854775808 ≤ a.tdiv 2 ∧ a.tdiv 2 ≤ 9223372036854775807
    omega
  simp only [if_pos this]
end Go.Proofs.Ytoiccljmdplfgaa.Flo
