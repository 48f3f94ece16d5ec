/-
  TEXTS OF POINTS, in plain Lean: what is written of a point, and what is read of a text.
-/
import Derived.Test.YtoiccljmdplfgaaPlM
namespace Go.Proofs.Ytoiccljmdplfgaa.Pt
open Go.Proofs.Ytoiccljmdplfgaa.Pl (P2 P2.ok P2.ok_iff distV lon gap)
set_option linter.unusedVariables false
def digs (n : Nat) : Nat → List UInt8
  | 0 => []
  | k + 1 => digs (n / 10) k ++ [UInt8.ofNat (48 + n % 10)]
theorem digs_len (n k : Nat) : (digs n k).length = k := by
  induction k generalizing n with
  | zero => rfl
  | succ k ih => unfold digs; rw [List.length_append, ih]; rfl
def sgB (n : Int) : UInt8 := if n < 0 then 45 else 43
def angT (n : Int) (wide : Nat) (sec : Bool) : List UInt8 := sgB n :: (digs (n.natAbs / 3600) wide ++ (digs (n.natAbs % 3600 / 60) 2 ++ if sec = true then digs (n.natAbs % 60) 2 else []))
theorem angT_len (n : Int) (wide : Nat) (sec : Bool) : (angT n wide sec).length = wide + 3 + if sec = true then 2 else 0 := by
  unfold angT
  rw [List.length_cons, List.length_append, List.length_append, digs_len, digs_len]
  cases sec <;> simp [digs_len] <;> omega
def secB (p : P2) : Bool := p.la.tmod 60 != 0 || p.lo.tmod 60 != 0
def pT (p : P2) : List UInt8 := angT p.la 2 (secB p) ++ angT p.lo 3 (secB p)
def txtT (p : P2) : List UInt8 := if p.ok = true then pT p else []
def txtE (p : P2) : Int := if p.ok = true then 0 else 2
def digB (b : UInt8) : Bool := decide (48 ≤ b.toNat ∧ b.toNat ≤ 57)
def numN (l : List UInt8) : Nat := l.foldl (fun n b => n * 10 + (b.toNat - 48)) 0
def numV (l : List UInt8) : Int := if l.all digB = true then (numN l : Int) else -1
theorem numN_snoc (l : List UInt8) (b : UInt8) : numN (l ++ [b]) = numN l * 10 + (b.toNat - 48) := by unfold numN; rw [List.foldl_append]; rfl
theorem dig_val (n : Nat) : (UInt8.ofNat (48 + n % 10)).toNat = 48 + n % 10 := by rw [UInt8.toNat_ofNat']; omega
theorem digs_dig (n k : Nat) : (digs n k).all digB = true := by
  induction k generalizing n with
  | zero => rfl
  | succ k ih =>
    unfold digs
    rw [List.all_append, ih]
    simp only [List.all_cons, List.all_nil, Bool.and_true, Bool.true_and]
    unfold digB; rw [dig_val]; simp; omega
theorem digs_val {n k : Nat} (h : n < 10 ^ k) : numN (digs n k) = n := by
  induction k generalizing n with
  | zero => simp at h; subst h; rfl
  | succ k ih =>
    unfold digs
    rw [numN_snoc, ih (by rw [Nat.pow_succ] at h; omega), dig_val]
    omega
theorem numV_digs {n k : Nat} (h : n < 10 ^ k) : numV (digs n k) = n := by unfold numV; rw [if_pos (digs_dig n k), digs_val h]
def partD (l : List UInt8) (wide : Nat) : Int := numV ((l.drop 1).take wide)
def partM (l : List UInt8) (wide : Nat) : Int := numV ((l.drop (1 + wide)).take 2)
def partS (l : List UInt8) (wide : Nat) (sec : Bool) : Int := if sec = true then numV (l.drop (3 + wide)) else 0
def readB (l : List UInt8) (wide : Nat) (sec : Bool) : Bool := decide (0 ≤ partD l wide ∧ 0 ≤ partM l wide ∧ 0 ≤ partS l wide sec)
def readA (l : List UInt8) (wide : Nat) (sec : Bool) : Int := partD l wide * 3600 + partM l wide * 60 + partS l wide sec
def readV (l : List UInt8) (wide : Nat) (sec : Bool) : Int := if readB l wide sec = true then (if l.head? = some 45 then -readA l wide sec else readA l wide sec) else 0
theorem numN_lt {l : List UInt8} (h : l.all digB = true) : numN l < 10 ^ l.length := by
  suffices ∀ (l : List UInt8) (a : Nat), l.all digB = true → l.foldl (fun n b => n * 10 + (b.toNat - 48)) a < (a + 1) * 10 ^ l.length by have := this l 0 h; rw [Nat.zero_add, Nat.one_mul] at this; exact this
  intro l
  induction l with
  | nil => intro a _; simp
  | cons b l ih =>
    intro a h
    simp only [List.all_cons, Bool.and_eq_true] at h
    have h1 := h.1; unfold digB at h1; simp at h1
    have := ih (a * 10 + (b.toNat - 48)) h.2
    rw [List.foldl_cons, List.length_cons]
    refine Nat.lt_of_lt_of_le this ?_
    rw [Nat.pow_succ, Nat.mul_comm (10 ^ l.length) 10, ← Nat.mul_assoc]
    exact Nat.mul_le_mul_right _ (by omega)
theorem numV_bd (l : List UInt8) {k : Nat} (h : l.length ≤ k) : -1 ≤ numV l ∧ numV l < 10 ^ k := by
  unfold numV
  have hp : (10 : Int) ^ k = ((10 ^ k : Nat) : Int) := by simp
  split
  · have := numN_lt (by assumption)
    have h2 : 10 ^ l.length ≤ 10 ^ k := Nat.pow_le_pow_right (by decide) h
    rw [hp]; omega
  · have : 0 < 10 ^ k := Nat.pow_pos (by decide)
    rw [hp]; omega
theorem ang_parts (n : Int) {wide : Nat} (sec : Bool) (h : n.natAbs / 3600 < 10 ^ wide) :
    partD (angT n wide sec) wide = (n.natAbs / 3600 : Nat) ∧ partM (angT n wide sec) wide = (n.natAbs % 3600 / 60 : Nat) ∧ partS (angT n wide sec) wide sec = if sec = true then ((n.natAbs % 60 : Nat) : Int) else 0 := by
  have e1 : (angT n wide sec).drop 1 = digs (n.natAbs / 3600) wide ++ (digs (n.natAbs % 3600 / 60) 2 ++ if sec = true then digs (n.natAbs % 60) 2 else []) := rfl
  have e2 : (angT n wide sec).drop (1 + wide) = digs (n.natAbs % 3600 / 60) 2 ++ if sec = true then digs (n.natAbs % 60) 2 else [] := by
    rw [← List.drop_drop, e1]; exact List.drop_left' (digs_len _ _)
  have e3 : (angT n wide sec).drop (3 + wide) = if sec = true then digs (n.natAbs % 60) 2 else [] := by
    rw [show 3 + wide = (1 + wide) + 2 by omega, ← List.drop_drop, e2]; exact List.drop_left' (digs_len _ _)
  refine ⟨?_, ?_, ?_⟩
  · unfold partD; rw [e1, List.take_left' (digs_len _ _), numV_digs h]
  · unfold partM; rw [e2, List.take_left' (digs_len _ _), numV_digs (by show _ < 100; omega)]
  · unfold partS; rw [e3]
    cases sec
    · rfl
    · rw [if_pos rfl, if_pos rfl, if_pos rfl, numV_digs (by show _ < 100; omega)]
theorem ang_back (n : Int) {wide : Nat} (sec : Bool) (h : n.natAbs / 3600 < 10 ^ wide) (hs : sec = true ∨ n.natAbs % 60 = 0) :
    readB (angT n wide sec) wide sec = true ∧ readV (angT n wide sec) wide sec = n := by
  obtain ⟨e1, e2, e3⟩ := ang_parts n sec h
  have hb : readB (angT n wide sec) wide sec = true := by
    unfold readB; rw [e1, e2, e3]
    rw [decide_eq_true_eq]
    refine ⟨by omega, by omega, ?_⟩
    split <;> omega
  refine ⟨hb, ?_⟩
  unfold readV
  rw [if_pos hb]
  have ha : readA (angT n wide sec) wide sec = (n.natAbs : Int) := by
    unfold readA; rw [e1, e2, e3]
    rcases hs with rfl | hs
    · rw [if_pos rfl]; omega
    · split <;> omega
  rw [ha]
  have hh : (angT n wide sec).head? = some (sgB n) := rfl
  rw [hh]
  unfold sgB
  by_cases h0 : n < 0
  · rw [if_pos h0, if_pos rfl]; omega
  · rw [if_neg h0, if_neg (by decide)]; omega
/-- what is read of a text -/
def cutN (s : List UInt8) : Nat := if s.length = 15 then 7 else 5
def lonB (s : List UInt8) : Bool := decide (s.length = 15)
def gotP (s : List UInt8) : P2 := ⟨readV (s.take (cutN s)) 2 (lonB s), readV (s.drop (cutN s)) 3 (lonB s)⟩
def ptB (s : List UInt8) : Bool := decide (s.length = 11 ∨ s.length = 15) && ((readB (s.take (cutN s)) 2 (lonB s) && readB (s.drop (cutN s)) 3 (lonB s)) && ((gotP s).ok && decide (pT (gotP s) = s)))
def ptV (s : List UInt8) : P2 := if ptB s = true then gotP s else ⟨0, 0⟩
def ptE (s : List UInt8) : Int := if ptB s = true then 0 else 4
theorem pT_len (p : P2) : (pT p).length = if secB p = true then 15 else 11 := by
  unfold pT; rw [List.length_append, angT_len, angT_len]; cases secB p <;> rfl
theorem pt_back {p : P2} (h : p.ok = true) : ptB (pT p) = true ∧ ptV (pT p) = p := by
  have h' := P2.ok_iff.1 h
  have hl := pT_len p
  have hlb : lonB (pT p) = secB p := by
    unfold lonB; rw [hl]; cases secB p <;> rfl
  have hc : cutN (pT p) = 2 + 3 + if secB p = true then 2 else 0 := by
    unfold cutN; rw [hl]; cases secB p <;> rfl
  have ht : (pT p).take (cutN (pT p)) = angT p.la 2 (secB p) := by
    unfold pT at hc ⊢; rw [hc]; exact List.take_left' (angT_len _ _ _)
  have hd : (pT p).drop (cutN (pT p)) = angT p.lo 3 (secB p) := by
    unfold pT at hc ⊢; rw [hc]; exact List.drop_left' (angT_len _ _ _)
  have hs : ∀ z : Int, (z = p.la ∨ z = p.lo) → secB p = true ∨ z.natAbs % 60 = 0 := by
    intro z hz
    cases hb : secB p with
    | true => exact Or.inl rfl
    | false =>
      refine Or.inr ?_
      unfold secB at hb
      simp only [Bool.or_eq_false_iff, bne_eq_false_iff_eq] at hb
      have q : ∀ z : Int, z.tmod 60 = 0 → z.natAbs % 60 = 0 := by
        intro z hz; have := Int.natAbs_tmod z 60; rw [hz] at this; simpa using this.symm
      rcases hz with rfl | rfl
      · exact q _ hb.1
      · exact q _ hb.2
  obtain ⟨a1, a2⟩ := ang_back p.la (wide := 2) (secB p) (by show _ < 100; omega) (hs _ (Or.inl rfl))
  obtain ⟨b1, b2⟩ := ang_back p.lo (wide := 3) (secB p) (by show _ < 1000; omega) (hs _ (Or.inr rfl))
  have hg : gotP (pT p) = p := by unfold gotP; rw [ht, hd, hlb, a2, b2]
  have hb : ptB (pT p) = true := by
    unfold ptB; rw [ht, hd, hlb, a1, b1, hg, h]
    simp only [Bool.and_true, Bool.and_eq_true, decide_eq_true_eq, hl, true_and]
    cases secB p <;> simp
  exact ⟨hb, by unfold ptV; rw [if_pos hb, hg]⟩
theorem ptE_back {p : P2} (h : p.ok = true) : ptE (pT p) = 0 := by unfold ptE; rw [if_pos (pt_back h).1]
theorem pT_inj {a b : P2} (ha : a.ok = true) (hb : b.ok = true) : pT a = pT b ↔ a = b :=
  ⟨fun e => by rw [← (pt_back ha).2, e, (pt_back hb).2], fun e => by rw [e]⟩
/-- the point of the degrees and minutes -/
def flat (p : P2) : P2 := ⟨p.la.tdiv 60 * 60, p.lo.tdiv 60 * 60⟩
theorem td60 (z : Int) : z.tdiv 60 * 60 = z - z.tmod 60 ∧ -59 ≤ z.tmod 60 ∧ z.tmod 60 ≤ 59 ∧ (0 ≤ z → 0 ≤ z.tmod 60) ∧ (z ≤ 0 → z.tmod 60 ≤ 0) := by
  have h := Int.tmod_add_tdiv_mul z 60
  have h1 : (z.tmod 60).natAbs < 60 := by rw [Int.natAbs_tmod]; exact Nat.mod_lt _ (by decide)
  refine ⟨by omega, by omega, by omega, fun h0 => Int.tmod_nonneg 60 h0, fun h0 => ?_⟩
  have := Int.tmod_nonneg 60 (show 0 ≤ -z by omega)
  rw [Int.neg_tmod] at this; omega
theorem flat_ok {p : P2} (h : p.ok = true) : (flat p).ok = true := by
  have h' := P2.ok_iff.1 h
  obtain ⟨a, _, _, _, _⟩ := td60 p.la
  obtain ⟨b, _, _, _, _⟩ := td60 p.lo
  refine P2.ok_iff.2 ⟨?_, ?_, ?_, ?_⟩ <;> show _ <;> simp only [flat] <;> omega
theorem flat_len (p : P2) : (pT (flat p)).length = 11 := by
  have q : ∀ z : Int, (z.tdiv 60 * 60).tmod 60 = 0 := fun z => Int.mul_tmod_left _ _
  rw [pT_len]
  have : secB (flat p) = false := by unfold secB flat; simp only [q]; rfl
  rw [this]; rfl
theorem sq_le {z B : Int} (h : -B ≤ z ∧ z ≤ B) : z * z ≤ B * B := by
  rcases Int.le_total 0 z with h0 | h0
  · exact Int.mul_le_mul h.2 h.2 h0 (by omega)
  · have := Int.mul_le_mul (show -z ≤ B by omega) (show -z ≤ B by omega) (show 0 ≤ -z by omega) (by omega)
    rwa [Int.neg_mul_neg] at this
theorem flat_near {p : P2} (h : p.ok = true) : distV p (flat p) ≤ 6962 := by
  unfold distV
  rw [h, flat_ok h, Bool.and_true, if_pos rfl]
  obtain ⟨a, _, _, _, _⟩ := td60 p.la
  obtain ⟨b, _, _, _, _⟩ := td60 p.lo
  have h1 := sq_le (z := p.la - (flat p).la) (B := 59) (by show _ ∧ _; simp only [flat]; omega)
  have h2 := sq_le (z := lon (p.lo - (flat p).lo)) (B := 59) (by
    have : p.lo - (flat p).lo = p.lo.tmod 60 := by simp only [flat]; omega
    rw [this]; unfold lon gap; split <;> omega)
  omega
end Go.Proofs.Ytoiccljmdplfgaa.Pt
