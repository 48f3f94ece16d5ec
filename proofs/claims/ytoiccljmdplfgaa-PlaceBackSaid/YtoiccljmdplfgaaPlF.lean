/-
  DOUBLES AS WHOLE NUMBERS: sum, product, order, opposite and cutting of doubles that stand for whole numbers below 2^53 are exact.
-/
import Ieee.Arith
import Derived.Laws.ComplexArith
namespace Go.Proofs.Ytoiccljmdplfgaa.Flo
open Ieee
set_option linter.unusedVariables false
set_option linter.unusedSimpArgs false
/-- a datum stands for the integer n (of a zero either one) -/
def IsD (d : Datum) (n : Int) : Prop :=
  ∃ (s : Bool) (k : Nat), d = .number s (n.natAbs * 2 ^ k) (-(k : Int)) ∧ (n ≠ 0 → s = decide (n < 0))
/-- word w of 64 bits stands for the integer n -/
def Is (w : Nat) (n : Int) : Prop := IsD (double.read w) n ∧ w < 2 ^ 64
theorem log2_mul_pow (a k : Nat) (h : a ≠ 0) : (a * 2 ^ k).log2 = a.log2 + k := by
  induction k with
  | zero => simp
  | succ k ih =>
    have e : a * 2 ^ (k + 1) = 2 * (a * 2 ^ k) := by rw [Nat.pow_succ]; rw [← Nat.mul_assoc, Nat.mul_comm]
    have hn : a * 2 ^ k ≠ 0 := Nat.mul_ne_zero h (Nat.pos_iff_ne_zero.1 (Nat.two_pow_pos k))
    rw [e, Nat.log2_two_mul hn, ih]; omega
theorem log2_bd (a : Nat) (h : a ≠ 0) : 2 ^ a.log2 ≤ a ∧ a < 2 ^ (a.log2 + 1) := ⟨Nat.log2_self_le h, Nat.lt_log2_self⟩
theorem log2_le_of_lt (a : Nat) (h : a < 2 ^ 53) (h0 : a ≠ 0) : a.log2 ≤ 52 := by
  have := (log2_bd a h0).1
  rcases Nat.lt_or_ge a.log2 53 with g | g
  · omega
  · have := Nat.pow_le_pow_right (n := 2) (by omega) g; omega
/-- nothing is dropped where all digits dropped are 0 -/
theorem cut_exact (neg : Bool) (q d : Nat) (h : q ≠ 0) : Toward.even.cut neg (q * 2 ^ d) d = q := by
  unfold Toward.cut
  have hl : (q * 2 ^ d).log2 = q.log2 + d := log2_mul_pow q d h
  have hm : min d ((q * 2 ^ d).log2 + 2) = d := by rw [hl]; omega
  have hg : 1 <<< d = 2 ^ d := by rw [Nat.one_shiftLeft]
  have hp : 0 < 2 ^ d := Nat.two_pow_pos d
  simp only [hm, hg, Nat.mul_div_cancel q hp, Nat.mul_mod_left]
  simp
theorem cut_zero (neg : Bool) (q : Nat) : Toward.even.cut neg q 0 = q := by
  unfold Toward.cut
  simp [Nat.mod_one]

theorem rung_le (L q : Nat) (hL : L ≤ 52) (hq : q < 2 ^ 53) : (L + 1022) * 2 ^ 52 + q ≤ 2047 * 2 ^ 52 := by omega
theorem word_eq (s : Bool) (r : Nat) : double.word s r = if s then 2 ^ 63 + r else r := by
  have hsw : double.signWeight = 2 ^ 63 := by decide
  unfold Format.word; rw [hsw]
theorem word_mod (s : Bool) (r : Nat) (h : r < 2 ^ 63) : double.word s r % 2 ^ 63 = r ∧ (double.word s r / 2 ^ 63 % 2 == 1) = s := by
  rw [word_eq]
  cases s
  · simp only [Bool.false_eq_true, if_false]
    refine ⟨by omega, ?_⟩
    have : r / 2 ^ 63 = 0 := by omega
    rw [this]; rfl
  · simp only [if_true]
    refine ⟨by omega, ?_⟩
    have : (2 ^ 63 + r) / 2 ^ 63 = 1 := by omega
    rw [this]; rfl
theorem rung_parts (L q : Nat) (hL : L ≤ 52) (q1 : 2 ^ 52 ≤ q) (q2 : q < 2 ^ 53) :
    (L + 1022) * 2 ^ 52 + q < 2 ^ 63 ∧ ¬ (L + 1022) * 2 ^ 52 + q < 2 ^ 52 ∧ (L + 1022) * 2 ^ 52 + q < 2047 * 2 ^ 52 ∧ 2 ^ 52 + ((L + 1022) * 2 ^ 52 + q) % 2 ^ 52 = q ∧ (-1074 : Int) + (((L + 1022) * 2 ^ 52 + q) / 2 ^ 52 - 1 : Nat) = -((52 - L : Nat) : Int) := by
  refine ⟨by omega, by omega, by omega, by omega, by omega⟩
theorem nearest_int (s : Bool) (n : Nat) (k : Int) (m : Nat) (h0 : n ≠ 0) (h : n < 2 ^ 53) (hm : (0 ≤ k ∧ m * 2 ^ k.toNat = n) ∨ (k < 0 ∧ m = n * 2 ^ (-k).toNat)) :
    double.nearest s m k = double.word s ((n.log2 + 1022) * 2 ^ 52 + n * 2 ^ (52 - n.log2)) := by
  have hl := log2_le_of_lt n h h0
  have hm0 : m ≠ 0 := by
    rcases hm with ⟨_, e⟩ | ⟨_, e⟩
    · intro e0; subst e0; simp at e; omega
    · rw [e]; exact Nat.mul_ne_zero h0 (Nat.pos_iff_ne_zero.1 (Nat.two_pow_pos _))
  have hlog : k + (m.log2 : Int) = n.log2 := by
    rcases hm with ⟨g, e⟩ | ⟨g, e⟩
    · rw [← e, log2_mul_pow m _ hm0]; omega
    · rw [e, log2_mul_pow n _ h0]; omega
  have hb := log2_bd n h0
  have hlp : double.leastPlace = -1074 := by decide
  have hfb : (double.fractionBits : Int) = 52 := rfl
  have hbin : double.binade = 2 ^ 52 := rfl
  unfold Format.nearest
  rw [if_neg hm0]
  simp only [hlp, hfb, hlog]
  have hlast : max ((n.log2 : Int) - 52) (-1074) = n.log2 - 52 := by omega
  rw [hlast]
  have hkept : Toward.even.cut s (m <<< (k - ((n.log2 : Int) - 52)).toNat) (((n.log2 : Int) - 52) - k).toNat = n * 2 ^ (52 - n.log2) := by
    rw [Nat.shiftLeft_eq]
    rcases hm with ⟨g, e⟩ | ⟨g, e⟩
    · have e1 : (((n.log2 : Int) - 52) - k).toNat = 0 := by omega
      rw [e1, cut_zero, ← e]
      have e2 : (k - ((m * 2 ^ k.toNat).log2 - 52 : Int)).toNat = k.toNat + (52 - (m * 2 ^ k.toNat).log2) := by rw [e]; omega
      rw [e2, Nat.pow_add, Nat.mul_assoc]
    · rcases Int.lt_or_le k ((n.log2 : Int) - 52) with g2 | g2
      · have e1 : (k - ((n.log2 : Int) - 52)).toNat = 0 := by omega
        have e2 : (-k).toNat = (52 - n.log2) + (((n.log2 : Int) - 52) - k).toNat := by omega
        rw [e1, e, e2, Nat.pow_zero, Nat.mul_one, Nat.pow_add, ← Nat.mul_assoc]
        exact cut_exact s _ _ (Nat.mul_ne_zero h0 (Nat.pos_iff_ne_zero.1 (Nat.two_pow_pos _)))
      · have e1 : (((n.log2 : Int) - 52) - k).toNat = 0 := by omega
        rw [e1, cut_zero, e, Nat.mul_assoc, ← Nat.pow_add]
        congr 2; omega
  rw [hkept, hbin]
  have e3 : ((n.log2 : Int) - 52 - -1074).toNat = n.log2 + 1022 := by omega
  rw [e3]
  have hinf : double.infRung = 2047 * 2 ^ 52 := by decide
  rw [hinf]
  have hk2 : n * 2 ^ (52 - n.log2) < 2 ^ 53 := by
    have a := Nat.mul_lt_mul_of_pos_right hb.2 (Nat.two_pow_pos (52 - n.log2))
    rw [← Nat.pow_add] at a
    have e4 : n.log2 + 1 + (52 - n.log2) = 53 := by omega
    rwa [e4] at a
  congr 1
  exact Nat.min_eq_left (rung_le _ _ hl hk2)
theorem read_word (s : Bool) (n : Nat) (h0 : n ≠ 0) (h : n < 2 ^ 53) :
    double.read (double.word s ((n.log2 + 1022) * 2 ^ 52 + n * 2 ^ (52 - n.log2))) = .number s (n * 2 ^ (52 - n.log2)) (-((52 - n.log2 : Nat) : Int)) := by
  have hl := log2_le_of_lt n h h0
  have hb := log2_bd n h0
  obtain ⟨q, hq⟩ : ∃ q, q = n * 2 ^ (52 - n.log2) := ⟨_, rfl⟩
  have q1 : 2 ^ 52 ≤ q := by
    have a := Nat.mul_le_mul_right (2 ^ (52 - n.log2)) hb.1
    rw [← Nat.pow_add] at a
    have e4 : n.log2 + (52 - n.log2) = 52 := by omega
    rw [e4] at a; omega
  have q2 : q < 2 ^ 53 := by
    have a := Nat.mul_lt_mul_of_pos_right hb.2 (Nat.two_pow_pos (52 - n.log2))
    rw [← Nat.pow_add] at a
    have e4 : n.log2 + 1 + (52 - n.log2) = 53 := by omega
    rw [e4] at a; omega
  rw [← hq]
  have hsw : double.signWeight = 2 ^ 63 := by decide
  have hinf : double.infRung = 2047 * 2 ^ 52 := by decide
  have hbin : double.binade = 2 ^ 52 := rfl
  have hlp : double.leastPlace = -1074 := by decide
  obtain ⟨r1, r2, r3, r4, r5⟩ := rung_parts n.log2 q hl q1 q2
  obtain ⟨w1, w2⟩ := word_mod s ((n.log2 + 1022) * 2 ^ 52 + q) r1
  unfold Format.read
  simp only [hsw, hinf, hbin, hlp, w1, w2]
  rw [if_neg r2, if_pos r3, r4, r5]
theorem read_zero (s : Bool) : double.read (double.word s 0) = .number s 0 (-1074) := by cases s <;> decide
theorem word_lt (s : Bool) (r : Nat) (h : r < 2 ^ 63) : double.word s r < 2 ^ 64 := by rw [word_eq]; cases s <;> simp <;> omega
theorem nearest_Is (s : Bool) (n : Int) (k : Int) (m : Nat) (h : n.natAbs < 2 ^ 53) (hm : (0 ≤ k ∧ m * 2 ^ k.toNat = n.natAbs) ∨ (k < 0 ∧ m = n.natAbs * 2 ^ (-k).toNat)) (hs : n ≠ 0 → s = decide (n < 0)) :
    Is (double.nearest s m k) n := by
  by_cases h0 : n = 0
  · subst h0
    have hm0 : m = 0 := by
      rcases hm with ⟨_, e⟩ | ⟨_, e⟩
      · rcases Nat.eq_zero_or_pos m with g | g
        · exact g
        · have := Nat.mul_pos g (Nat.two_pow_pos k.toNat); rw [e] at this; simp at this
      · simpa using e
    have e : double.nearest s m k = double.word s 0 := by unfold Format.nearest; rw [if_pos hm0]
    rw [e]
    obtain ⟨z, hz⟩ : ∃ z : Nat, double.read (double.word s 0) = .number s 0 (-(z : Int)) := ⟨1074, read_zero s⟩
    exact ⟨⟨s, z, by rw [hz, Int.natAbs_zero, Nat.zero_mul], hs⟩, word_lt s 0 (by omega)⟩
  · have hn : n.natAbs ≠ 0 := by omega
    rw [nearest_int s n.natAbs k m hn h hm]
    have hl := log2_le_of_lt n.natAbs h hn
    have hb := log2_bd n.natAbs hn
    refine ⟨⟨s, 52 - n.natAbs.log2, read_word s n.natAbs hn h, hs⟩, word_lt s _ ?_⟩
    have a := Nat.mul_lt_mul_of_pos_right hb.2 (Nat.two_pow_pos (52 - n.natAbs.log2))
    rw [← Nat.pow_add] at a
    have e4 : n.natAbs.log2 + 1 + (52 - n.natAbs.log2) = 53 := by omega
    rw [e4] at a
    have := rung_le _ _ hl a
    omega
theorem signed_eq (s : Bool) (n : Int) (k u : Nat) (hs : n ≠ 0 → s = decide (n < 0)) : signed s (n.natAbs * 2 ^ k) u = n * 2 ^ (k + u) := by
  unfold signed
  rw [Nat.shiftLeft_eq, Nat.mul_assoc, ← Nat.pow_add]
  by_cases h0 : n = 0
  · subst h0; simp
  · rw [hs h0]
    by_cases hn : n < 0
    · simp only [hn, decide_true, if_true]
      rw [Int.natCast_mul, Int.natCast_pow]
      have : (n.natAbs : Int) = -n := by omega
      rw [this, Int.neg_mul, Int.neg_neg]; rfl
    · simp only [hn, decide_false, Bool.false_eq_true, if_false]
      rw [Int.natCast_mul, Int.natCast_pow]
      have : (n.natAbs : Int) = n := by omega
      rw [this]; rfl
theorem write_Is (s : Bool) (n : Int) (k : Nat) (h : n.natAbs < 2 ^ 53) (hs : n ≠ 0 → s = decide (n < 0)) : Is (double.write (.number s (n.natAbs * 2 ^ k) (-(k : Int)))) n := by
  apply nearest_Is s n _ _ h _ hs
  rcases Nat.eq_zero_or_pos k with g | g
  · subst g; left; simp
  · right; refine ⟨by omega, ?_⟩
    have : (-(-(k : Int))).toNat = k := by omega
    rw [this]
theorem sum_IsD {x y : Datum} {a b : Int} (hx : IsD x a) (hy : IsD y b) : ∃ d, Datum.sum x y = some d ∧ IsD d (a + b) := by
  obtain ⟨s, i, rfl, hs⟩ := hx
  obtain ⟨t, j, rfl, ht⟩ := hy
  have hb : min (-(i : Int)) (-(j : Int)) = -((max i j : Nat) : Int) := by omega
  have e1 : (-(i : Int) - -((max i j : Nat) : Int)).toNat = max i j - i := by omega
  have e2 : (-(j : Int) - -((max i j : Nat) : Int)).toNat = max i j - j := by omega
  have e3 : i + (max i j - i) = max i j := by omega
  have e4 : j + (max i j - j) = max i j := by omega
  have hp : (0 : Int) < 2 ^ (max i j) := Int.pow_pos (by omega)
  simp only [Datum.sum, hb, e1, e2]
  rw [signed_eq s a i _ hs, signed_eq t b j _ ht, e3, e4, ← Int.add_mul]
  refine ⟨_, rfl, (if (a + b) * 2 ^ max i j = 0 then s && t else decide ((a + b) * 2 ^ max i j < 0)), max i j, ?_, ?_⟩
  · rw [Int.natAbs_mul, Int.natAbs_pow]; rfl
  · intro hne
    have h1 : (a + b) * 2 ^ (max i j) ≠ 0 := Int.mul_ne_zero hne (by omega)
    rw [if_neg h1]
    by_cases hn : a + b < 0
    · have : (a + b) * 2 ^ (max i j) < 0 := Int.mul_neg_of_neg_of_pos hn hp
      simp [hn, this]
    · have : ¬ (a + b) * 2 ^ (max i j) < 0 := by have := Int.mul_nonneg (by omega : 0 ≤ a + b) (by omega : (0:Int) ≤ 2 ^ (max i j)); omega
      simp [hn, this]
theorem opposite_IsD {x : Datum} {a : Int} (hx : IsD x a) : IsD x.opposite (-a) := by
  obtain ⟨s, i, rfl, hs⟩ := hx
  refine ⟨!s, i, by simp [Datum.opposite], fun h => ?_⟩
  rw [hs (by omega)]
  by_cases hn : a < 0 <;> simp [hn] <;> omega
theorem product_IsD {x y : Datum} {a b : Int} (hx : IsD x a) (hy : IsD y b) : ∃ d, Datum.product x y = some d ∧ IsD d (a * b) := by
  obtain ⟨s, i, rfl, hs⟩ := hx
  obtain ⟨t, j, rfl, ht⟩ := hy
  refine ⟨_, rfl, s ^^ t, i + j, ?_, ?_⟩
  · have e : -(i : Int) + -(j : Int) = -((i + j : Nat) : Int) := by omega
    rw [e, Int.natAbs_mul, Nat.pow_add]
    congr 1
    rw [Nat.mul_assoc, Nat.mul_assoc]
    congr 1
    rw [← Nat.mul_assoc, ← Nat.mul_assoc, Nat.mul_comm (2 ^ i)]
  · intro h
    have ha : a ≠ 0 := by intro e; subst e; simp at h
    have hb : b ≠ 0 := by intro e; subst e; simp at h
    rw [hs ha, ht hb]
    by_cases h1 : a < 0 <;> by_cases h2 : b < 0
    · have : ¬ a * b < 0 := by have := Int.mul_pos_of_neg_of_neg h1 h2; omega
      simp [h1, h2, this]
    · have : a * b < 0 := Int.mul_neg_of_neg_of_pos h1 (by omega)
      simp [h1, h2, this]
    · have : a * b < 0 := by rw [Int.mul_comm]; exact Int.mul_neg_of_neg_of_pos h2 (by omega)
      simp [h1, h2, this]
    · have : ¬ a * b < 0 := by have := Int.mul_nonneg (by omega : 0 ≤ a) (by omega : 0 ≤ b); omega
      simp [h1, h2, this]
theorem write_IsD {d : Datum} {n : Int} (hd : IsD d n) (h : n.natAbs < 2 ^ 53) : Is (double.write d) n := by
  obtain ⟨s, k, rfl, hs⟩ := hd
  exact write_Is s n k h hs
theorem add_Is {x y : Nat} {a b : Int} (hx : Is x a) (hy : Is y b) (h : (a + b).natAbs < 2 ^ 53) : ∃ r, double.add x y = some r ∧ Is r (a + b) := by
  obtain ⟨d, e, hd⟩ := sum_IsD hx.1 hy.1
  exact ⟨_, by unfold Format.add; rw [e]; rfl, write_IsD hd h⟩
theorem sub_Is {x y : Nat} {a b : Int} (hx : Is x a) (hy : Is y b) (h : (a - b).natAbs < 2 ^ 53) : ∃ r, double.sub x y = some r ∧ Is r (a - b) := by
  obtain ⟨d, e, hd⟩ := sum_IsD hx.1 (opposite_IsD hy.1)
  have e2 : a + -b = a - b := by omega
  rw [e2] at hd
  exact ⟨_, by unfold Format.sub; rw [e]; rfl, write_IsD hd h⟩
theorem mul_Is {x y : Nat} {a b : Int} (hx : Is x a) (hy : Is y b) (h : (a * b).natAbs < 2 ^ 53) : ∃ r, double.mul x y = some r ∧ Is r (a * b) := by
  obtain ⟨d, e, hd⟩ := product_IsD hx.1 hy.1
  exact ⟨_, by unfold Format.mul; rw [e]; rfl, write_IsD hd h⟩
theorem order_Is {x y : Nat} {a b : Int} (hx : Is x a) (hy : Is y b) : double.order x y = some (compare a b) := by
  obtain ⟨⟨s, i, ex, hs⟩, _⟩ := hx
  obtain ⟨⟨t, j, ey, ht⟩, _⟩ := hy
  unfold Format.order
  rw [ex, ey]
  have hb : min (-(i : Int)) (-(j : Int)) = -((max i j : Nat) : Int) := by omega
  have e1 : (-(i : Int) - -((max i j : Nat) : Int)).toNat = max i j - i := by omega
  have e2 : (-(j : Int) - -((max i j : Nat) : Int)).toNat = max i j - j := by omega
  have e3 : i + (max i j - i) = max i j := by omega
  have e4 : j + (max i j - j) = max i j := by omega
  have hp : (0 : Int) < 2 ^ (max i j) := Int.pow_pos (by omega)
  simp only [Datum.order, hb, e1, e2]
  rw [signed_eq s a i _ hs, signed_eq t b j _ ht, e3, e4]
  congr 1
  simp only [compare, compareOfLessAndEq]
  have l1 : (a * 2 ^ (max i j) < b * 2 ^ (max i j)) ↔ a < b := ⟨fun h => Int.lt_of_mul_lt_mul_right h (by omega), fun h => Int.mul_lt_mul_of_pos_right h hp⟩
  have l2 : (a * 2 ^ (max i j) = b * 2 ^ (max i j)) ↔ a = b := ⟨fun h => Int.eq_of_mul_eq_mul_right (by omega) h, fun h => by rw [h]⟩
  simp only [l1, l2]
theorem toInt_Is {x : Nat} {a : Int} (hx : Is x a) : (double.read x).toInt .zero = some a := by
  obtain ⟨⟨s, i, ex, hs⟩, _⟩ := hx
  rw [ex]
  have e1 : (-(i : Int)).toNat = 0 := by omega
  have e2 : (-(-(i : Int))).toNat = i := by omega
  have hc : Toward.zero.cut s (a.natAbs * 2 ^ i) i = a.natAbs := by
    by_cases h0 : a.natAbs = 0
    · rw [h0]; simp [Toward.cut]
    · unfold Toward.cut
      have hl : (a.natAbs * 2 ^ i).log2 = a.natAbs.log2 + i := log2_mul_pow _ i h0
      have hm : min i ((a.natAbs * 2 ^ i).log2 + 2) = i := by rw [hl]; omega
      simp only [hm, Nat.one_shiftLeft, Nat.mul_div_cancel _ (Nat.two_pow_pos i)]
      simp
  simp only [Datum.toInt, Datum.integral, e1, e2, Nat.shiftLeft_zero, hc]
  congr 1
  have := signed_eq s a 0 0 hs
  simpa using this
/-- the double of a whole number -/
abbrev fl (n : Int) : Nat := floatOfInt .f64 n
theorem fl_Is {n : Int} (h : n.natAbs < 2 ^ 53) : Is (fl n) n := by
  have hd : IsD (.number (decide (n < 0)) n.natAbs 0) n := ⟨decide (n < 0), 0, by rw [Nat.pow_zero, Nat.mul_one]; rfl, fun _ => rfl⟩
  exact write_IsD hd h
theorem xor_top (x : Nat) : (x ^^^ 2 ^ 63) % 2 ^ 63 = x % 2 ^ 63 := by
  rw [Nat.xor_mod_two_pow, Nat.mod_self, Nat.xor_zero]
theorem xor_sign (x : Nat) (h : x < 2 ^ 64) : ((x ^^^ 2 ^ 63) / 2 ^ 63 % 2 == 1) = !(x / 2 ^ 63 % 2 == 1) := by
  rw [Nat.xor_div_two_pow, Nat.div_self (Nat.two_pow_pos 63)]
  have : x / 2 ^ 63 = 0 ∨ x / 2 ^ 63 = 1 := by omega
  rcases this with e | e <;> rw [e] <;> decide
theorem neg_Is {x : Nat} {a : Int} (hx : Is x a) : Is (Go.Op.negFloat .f64 x) (-a) := by
  obtain ⟨⟨s, k, e, hs⟩, hlt⟩ := hx
  have hn : Go.Op.negFloat .f64 x = x ^^^ 2 ^ 63 := rfl
  rw [hn]
  refine ⟨⟨!s, k, ?_, fun h => ?_⟩, Nat.xor_lt_two_pow hlt (by decide)⟩
  · have hsw : double.signWeight = 2 ^ 63 := by decide
    unfold Format.read at e ⊢
    rw [hsw] at e ⊢
    simp only [xor_top, xor_sign x hlt]
    simp only [Int.natAbs_neg]
    revert e
    generalize (x / 2 ^ 63 % 2 == 1) = b
    generalize x % 2 ^ 63 = r
    intro e
    simp only at e ⊢
    split at e
    · rename_i h1
      rw [if_pos h1]
      injection e with e1 e2 e3
      subst e1
      rw [e2, e3]
    · rename_i h1
      rw [if_neg h1]
      split at e
      · rename_i h2
        rw [if_pos h2]
        injection e with e1 e2 e3
        subst e1
        rw [e2, e3]
      · split at e <;> cases e
  · rw [hs (by omega)]
    by_cases hn : a < 0 <;> simp [hn] <;> omega
theorem toIntV {x : Nat} {a : Int} (hx : Is x a) (h1 : -9223372036854775808 ≤ a) (h2 : a ≤ 9223372036854775807) : floatToIntVal .f64 x .i64 = some a := by
  unfold floatToIntVal
  have e : (FloatKind.f64.decode x).toInt .zero = some a := toInt_Is hx
  rw [e]
  have : IntKind.min .i64 ≤ a ∧ a ≤ IntKind.max .i64 := ⟨h1, h2⟩
  simp only [if_pos this]
end Go.Proofs.Ytoiccljmdplfgaa.Flo
