/-
  POINTS OF THE PLANE, in plain Lean: whereto they turn, what lies between, how far apart, quarters.
-/
import Derived.ProofKit
namespace Go.Proofs.Ytoiccljmdplfgaa.Pl
set_option linter.unusedVariables false
structure P2 where
  la : Int
  lo : Int
def P2.ok (p : P2) : Bool := decide (-324000 ≤ p.la ∧ p.la ≤ 324000 ∧ -648000 ≤ p.lo ∧ p.lo ≤ 648000)
theorem P2.ok_iff {p : P2} : p.ok = true ↔ -324000 ≤ p.la ∧ p.la ≤ 324000 ∧ -648000 ≤ p.lo ∧ p.lo ≤ 648000 := by unfold P2.ok; exact decide_eq_true_iff
def ok3 (a b c : P2) : Bool := a.ok && (b.ok && c.ok)
def side (a b c : P2) : Int := (b.lo - a.lo) * (c.la - b.la) + -(b.la - a.la) * (c.lo - b.lo)
def cross (a b c : P2) : Int := (a.lo - b.lo) * (c.la - b.la) + -(a.la - b.la) * (c.lo - b.lo)
def dot (a b c : P2) : Int := (a.lo - b.lo) * (c.lo - b.lo) - -(a.la - b.la) * (c.la - b.la)
def sgn (z : Int) : Int := if 0 < z then 1 else if z < 0 then -1 else 0
def turnV (a b c : P2) : Int := if ok3 a b c = true then sgn (side a b c) else 0
def betV (a b c : P2) : Bool := ok3 a b c && (decide (cross a b c = 0) && decide (dot a b c ≤ 0))
theorem ok3_turn (a b c : P2) : ok3 b c a = ok3 a b c := by unfold ok3; cases a.ok <;> cases b.ok <;> cases c.ok <;> rfl
theorem ok3_back (a b c : P2) : ok3 c b a = ok3 a b c := by unfold ok3; cases a.ok <;> cases b.ok <;> cases c.ok <;> rfl
theorem side_turn (a b c : P2) : side b c a = side a b c := by unfold side; grind
theorem side_back (a b c : P2) : side c b a = -side a b c := by unfold side; grind
theorem cross_side (a b c : P2) : cross a b c = -side a b c := by unfold side cross; grind
theorem cross_back (a b c : P2) : cross c b a = -cross a b c := by unfold cross; grind
theorem dot_back (a b c : P2) : dot c b a = dot a b c := by unfold dot; grind
theorem sgn_neg (z : Int) : sgn (-z) = -sgn z := by
  unfold sgn
  by_cases h : 0 < z
  · rw [if_neg (by omega), if_pos (by omega), if_pos h]
  · by_cases h2 : z < 0
    · rw [if_pos (by omega), if_neg h, if_pos h2]; rfl
    · rw [if_neg (by omega), if_neg (by omega), if_neg h, if_neg h2]; rfl
theorem sgn_bd (z : Int) : -1 ≤ sgn z ∧ sgn z ≤ 1 := by unfold sgn; split <;> (try split) <;> omega
theorem sgn_0 {z : Int} : sgn z = 0 ↔ z = 0 := by unfold sgn; split <;> (try split) <;> omega
theorem turn_turn (a b c : P2) : turnV b c a = turnV a b c := by unfold turnV; rw [ok3_turn, side_turn]
theorem turn_back (a b c : P2) : turnV c b a = -turnV a b c := by
  unfold turnV; rw [ok3_back, side_back, sgn_neg]; split <;> rfl
theorem turn_bd (a b c : P2) : -1 ≤ turnV a b c ∧ turnV a b c ≤ 1 := by
  unfold turnV; split
  · exact sgn_bd _
  · decide
theorem bet_back (a b c : P2) : betV c b a = betV a b c := by
  unfold betV; rw [ok3_back, cross_back, dot_back]
  have : decide (-cross a b c = 0) = decide (cross a b c = 0) := by congr 1; simp
  rw [this]
theorem bet_turn {a b c : P2} (h : betV a b c = true) : turnV a b c = 0 := by
  unfold betV at h
  rw [Bool.and_eq_true, Bool.and_eq_true, decide_eq_true_eq] at h
  unfold turnV
  rw [if_pos h.1]
  have := h.2.1
  rw [cross_side] at this
  rw [sgn_0]; omega
theorem bet_self {a c : P2} (h : a.ok = true) (h2 : c.ok = true) : betV a a c = true := by
  unfold betV ok3 cross dot
  rw [h, h2, Int.sub_self, Int.sub_self]; simp
def gap (d : Int) : Int := if d < 0 then -d else d
def lon (d : Int) : Int := min (gap d) (1296000 - gap d)
def distV (a b : P2) : Int := if a.ok && b.ok then (a.la - b.la) * (a.la - b.la) + lon (a.lo - b.lo) * lon (a.lo - b.lo) else 0
theorem gap_back (x y : Int) : gap (x - y) = gap (y - x) := by unfold gap; split <;> split <;> omega
theorem dist_back (a b : P2) : distV a b = distV b a := by
  unfold distV lon
  rw [gap_back a.lo b.lo, Bool.and_comm]
  split
  · congr 1
    have : a.la - b.la = -(b.la - a.la) := by omega
    rw [this, Int.neg_mul_neg]
  · rfl
theorem sq_nonneg (z : Int) : 0 ≤ z * z := by
  rcases Int.le_total 0 z with h | h
  · exact Int.mul_nonneg h h
  · have := Int.mul_nonneg (show 0 ≤ -z by omega) (show 0 ≤ -z by omega); rwa [Int.neg_mul_neg] at this
theorem sq_0 {z : Int} : z * z = 0 ↔ z = 0 := by rw [Int.mul_eq_zero]; simp
theorem dist_nonneg (a b : P2) : 0 ≤ distV a b := by
  unfold distV; split
  · have := sq_nonneg (a.la - b.la); have := sq_nonneg (lon (a.lo - b.lo)); omega
  · decide
theorem dist_0 {a b : P2} (h : a.ok = true) (h2 : b.ok = true) : distV a b = 0 ↔ (a.la = b.la ∧ (a.lo - b.lo) % 1296000 = 0) := by
  have h' := P2.ok_iff.1 h; have h2' := P2.ok_iff.1 h2
  unfold distV
  rw [h, h2, Bool.and_true, if_pos rfl]
  have s1 := sq_nonneg (a.la - b.la); have s2 := sq_nonneg (lon (a.lo - b.lo))
  have e1 := sq_0 (z := a.la - b.la); have e2 := sq_0 (z := lon (a.lo - b.lo))
  have e3 : lon (a.lo - b.lo) = 0 ↔ (a.lo - b.lo) % 1296000 = 0 := by unfold lon gap; split <;> omega
  constructor
  · intro hh
    have z1 : (a.la - b.la) * (a.la - b.la) = 0 := by omega
    have z2 : lon (a.lo - b.lo) * lon (a.lo - b.lo) = 0 := by omega
    exact ⟨by have := e1.1 z1; omega, e3.1 (e2.1 z2)⟩
  · rintro ⟨g1, g2⟩
    rw [e1.2 (by omega), e2.2 (e3.2 g2)]; rfl
/-- a quarter to the left -/
def rot (p : P2) : P2 := ⟨p.lo, -p.la⟩
def rotN (p : P2) : Nat → P2
  | 0 => p
  | n + 1 => rot (rotN p n)
theorem rot4 (p : P2) : rot (rot (rot (rot p))) = p := by obtain ⟨a, b⟩ := p; simp [rot]
theorem rotN_add (p : P2) (i j : Nat) : rotN (rotN p i) j = rotN p (i + j) := by
  induction j with
  | zero => rfl
  | succ j ih => show rot (rotN (rotN p i) j) = rot (rotN p (i + j)); rw [ih]
theorem rotN_4 (p : P2) (i : Nat) : rotN p (i + 4) = rotN p i := rot4 (rotN p i)
theorem rotN_mod (p : P2) (i : Nat) : rotN p i = rotN p (i % 4) := by
  induction i using Nat.strongRecOn with
  | ind i ih =>
    rcases Nat.lt_or_ge i 4 with h | h
    · rw [Nat.mod_eq_of_lt h]
    · have e : i = (i - 4) + 4 := by omega
      rw [e, rotN_4, ih (i - 4) (by omega), Nat.add_mod_right]
theorem side_rot (a b c : P2) : side (rot a) (rot b) (rot c) = side a b c := by unfold side rot; grind
theorem cross_rot (a b c : P2) : cross (rot a) (rot b) (rot c) = cross a b c := by unfold cross rot; grind
theorem dot_rot (a b c : P2) : dot (rot a) (rot b) (rot c) = dot a b c := by unfold dot rot; grind
theorem side_rotN (a b c : P2) (n : Nat) : side (rotN a n) (rotN b n) (rotN c n) = side a b c := by
  induction n with
  | zero => rfl
  | succ n ih => show side (rot _) (rot _) (rot _) = _; rw [side_rot, ih]
theorem cross_rotN (a b c : P2) (n : Nat) : cross (rotN a n) (rotN b n) (rotN c n) = cross a b c := by
  induction n with
  | zero => rfl
  | succ n ih => show cross (rot _) (rot _) (rot _) = _; rw [cross_rot, ih]
theorem dot_rotN (a b c : P2) (n : Nat) : dot (rotN a n) (rotN b n) (rotN c n) = dot a b c := by
  induction n with
  | zero => rfl
  | succ n ih => show dot (rot _) (rot _) (rot _) = _; rw [dot_rot, ih]
/-- a point of which both numbers are small enough to be turned -/
def P2.sq (p : P2) : Prop := -324000 ≤ p.la ∧ p.la ≤ 324000 ∧ -324000 ≤ p.lo ∧ p.lo ≤ 324000
theorem P2.sq.ok {p : P2} (h : p.sq) : p.ok = true := by unfold P2.sq at h; rw [P2.ok_iff]; omega
theorem sq_rotN {p : P2} (h : p.sq) (n : Nat) : (rotN p n).sq := by
  induction n with
  | zero => exact h
  | succ n ih => unfold P2.sq at ih ⊢; show -324000 ≤ (rotN p n).lo ∧ (rotN p n).lo ≤ 324000 ∧ -324000 ≤ -(rotN p n).la ∧ -(rotN p n).la ≤ 324000; omega
def quart (p : P2) (n : Int) : P2 := if p.ok = true then (if (rotN p (n % 4).toNat).ok = true then rotN p (n % 4).toNat else ⟨0, 0⟩) else ⟨0, 0⟩
theorem quart_sq {p : P2} (h : p.sq) (n : Int) : quart p n = rotN p (n % 4).toNat := by
  unfold quart; rw [if_pos h.ok, if_pos (sq_rotN h _).ok]
theorem quart_sq' {p : P2} (h : p.sq) (n : Int) : (quart p n).sq := by rw [quart_sq h]; exact sq_rotN h _
theorem quart_add {p : P2} (h : p.sq) (n m : Int) : quart (quart p n) m = quart p (n + m) := by
  rw [quart_sq (quart_sq' h n), quart_sq h, quart_sq h, rotN_add, rotN_mod]
  congr 1; omega
theorem quart_back {p : P2} (h : p.sq) (n : Int) : quart (quart p n) (-n) = p := by
  rw [quart_add h, quart_sq h, show (n + -n) % 4 = 0 by omega]; rfl
theorem quart_4 {p : P2} (h : p.sq) : quart p 4 = p := by rw [quart_sq h]; rfl
theorem turn_quart {a b c : P2} (ha : a.sq) (hb : b.sq) (hc : c.sq) (n : Int) : turnV (quart a n) (quart b n) (quart c n) = turnV a b c := by
  unfold turnV ok3
  rw [(quart_sq' ha n).ok, (quart_sq' hb n).ok, (quart_sq' hc n).ok, ha.ok, hb.ok, hc.ok, quart_sq ha, quart_sq hb, quart_sq hc, side_rotN]
theorem bet_quart {a b c : P2} (ha : a.sq) (hb : b.sq) (hc : c.sq) (n : Int) : betV (quart a n) (quart b n) (quart c n) = betV a b c := by
  unfold betV ok3
  rw [(quart_sq' ha n).ok, (quart_sq' hb n).ok, (quart_sq' hc n).ok, ha.ok, hb.ok, hc.ok, quart_sq ha, quart_sq hb, quart_sq hc, cross_rotN, dot_rotN]
end Go.Proofs.Ytoiccljmdplfgaa.Pl
