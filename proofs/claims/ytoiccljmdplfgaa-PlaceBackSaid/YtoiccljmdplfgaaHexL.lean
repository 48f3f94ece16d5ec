/-
  LINES OF PLAIN FIELDS, in plain Lean: a line of fields of plain bytes is read as these fields.
-/
import Derived.Test.YtoiccljmdplfgaaFld
import Derived.Test.YtoiccljmdplfgaaScnJ
namespace Go.Proofs.Ytoiccljmdplfgaa.Scn
open Go.ChangeShapes Go.WideShapes Go.ChangeAt Go.RowKit
open Go.Proofs.Ytoiccljmdplfgaa
open Go.Proofs.Ytoiccljmdplfgaa.Wd
open Go.Proofs.Ytoiccljmdplfgaa.Pt (L L_len)
set_option linter.unusedVariables false
theorem k34 : kindN 34 = 4 := by decide
theorem k32 : kindN 32 = 1 := by decide
theorem fldP (x : List UInt8) (hx : ∀ b ∈ x, kindN b = 0) (r : List UInt8) (p : Nat) (acc : List Fl) (bg : Nat) (tx : List UInt8) (q : Nat) :
    fld (x ++ r) 1 p acc bg tx q = fld r 1 (p + x.length) acc bg (tx ++ x) q := by
  induction x generalizing p tx with
  | nil => simp
  | cons b t ih =>
    rw [List.cons_append, f10 (hx b (by simp)), ih (fun c hc => hx c (by simp [hc]))]
    rw [List.append_assoc, List.length_cons, show p + 1 + t.length = p + (t.length + 1) by omega]; rfl
theorem quo_plain {b : UInt8} {t : List UInt8} (hx : ∀ c ∈ b :: t, kindN c = 0) : quoV (b :: t) = b :: t := by
  have h1 : (b :: t).any badB = false := by
    rw [List.any_eq_false]; intro c hc; simp [badB, hx c hc]
  have h2 : (b :: t).any inB = false := by
    rw [List.any_eq_false]; intro c hc; simp [inB, hx c hc]
  unfold quoV wQ
  rw [h1, h2]; rfl
theorem fldQ (x : List UInt8) (hx : ∀ b ∈ x, kindN b = 0) (r : List UInt8) (p : Nat) (acc : List Fl) (bg : Nat) (tx : List UInt8) (q : Nat) (h24 : ¬ acc.length = 24) :
    ∃ p' bg' q', fld (quoV x ++ r) 0 p acc bg tx q = fld r 1 p' acc bg' x q' := by
  cases x with
  | nil =>
    refine ⟨p + 1 + 1, p + 1, p + 1, ?_⟩
    show fld (34 :: 34 :: r) 0 p acc bg tx q = _
    rw [f04 k34 h24, f24 k34]
  | cons b t =>
    rw [quo_plain hx, List.cons_append, f00 (hx b (by simp)) h24, fldP t (fun c hc => hx c (by simp [hc]))]
    exact ⟨_, _, _, rfl⟩
theorem join_two (a b : List UInt8) (r : List (List UInt8)) : Lib.join (a :: b :: r) [32] = a ++ 32 :: Lib.join (b :: r) [32] := by
  rw [Lib.join_cons, Lib.join_cons]
  simp [Lib.joinTail]
theorem fld_line : ∀ (ys : List (List UInt8)), (∀ y ∈ ys, ∀ b ∈ y, kindN b = 0) → ∀ (p : Nat) (acc : List Fl) (bg : Nat) (tx : List UInt8) (q : Nat), acc.length + ys.length ≤ 24 →
    ∃ l', fld (Lib.join (ys.map quoV) [32]) 0 p acc bg tx q = .ok (acc ++ l') ∧ l'.map (·.1) = ys
  | [], _, p, acc, bg, tx, q, _ => ⟨[], by rw [List.map_nil, Lib.join_nil, f0n, List.append_nil], rfl⟩
  | [y], hy, p, acc, bg, tx, q, hl => by
    simp only [List.length_cons, List.length_nil] at hl
    obtain ⟨p', bg', q', h⟩ := fldQ y (hy y (by simp)) [] p acc bg tx q (by omega)
    refine ⟨[(y, bg')], ?_, rfl⟩
    rw [List.map_cons, List.map_nil, Lib.join_one]
    rw [List.append_nil] at h
    rw [h, f1n, f0n]
  | y :: z :: r, hy, p, acc, bg, tx, q, hl => by
    simp only [List.length_cons] at hl
    obtain ⟨p', bg', q', h⟩ := fldQ y (hy y (by simp)) (32 :: Lib.join ((z :: r).map quoV) [32]) p acc bg tx q (by omega)
    obtain ⟨l', h1, h2⟩ := fld_line (z :: r) (fun u hu => hy u (by simp only [List.mem_cons] at hu ⊢; exact .inr hu)) (p' + 1) (acc ++ [(y, bg')]) bg' y q' (by simp; omega)
    refine ⟨(y, bg') :: l', ?_, by simp [h2]⟩
    have e : Lib.join ((y :: z :: r).map quoV) [32] = quoV y ++ 32 :: Lib.join ((z :: r).map quoV) [32] := join_two _ _ _
    rw [e, h, f1e (.inl k32), f01 k32, h1]
    simp
end Go.Proofs.Ytoiccljmdplfgaa.Scn
