/-
  THE SPANS OF A YEAR. The plain law.
-/
import Derived.Test.YtgdgkgeoigljcaaDoorTbM
namespace Go.Proofs.YtgdgkgeoigljcaaDoor.Tb
open Go.ChangeShapes Go.WideShapes Go.ChangeAt Go.RowKit
open Go.Proofs.YtgdgkgeoigljcaaDoor
open Go.Proofs.YtgdgkgeoigljcaaDoor.Wd
open Go.Proofs.YtgdgkgeoigljcaaDoor.Rec
open Go.Proofs.YtgdgkgeoigljcaaDoor.Yr
set_option linter.unusedVariables false
/-- a span: from when on, how far from universal time, whether summer time -/
structure Sp where
  f : Int
  o : Int
  d : Bool
abbrev Sp.A (s : Sp) : Array Value := #[.int .i64 s.f, .int .i64 s.o, .bool s.d]
abbrev Sp.V (s : Sp) : Value := .agg s.A
def flatS : List Sp → List Value
  | [] => []
  | s :: l => s.A.toList ++ flatS l
theorem flatS_app (l m : List Sp) : flatS (l ++ m) = flatS l ++ flatS m := by
  induction l with
  | nil => rfl
  | cons s l ih => show s.A.toList ++ flatS (l ++ m) = _; rw [ih, ← List.append_assoc]; rfl
theorem flatS_len (l : List Sp) : (flatS l).length = l.length * 3 := by
  induction l with
  | nil => rfl
  | cons s l ih => show (s.A.toList ++ flatS l).length = _; rw [List.length_append, ih, List.length_cons]; simp; omega
theorem flatS_at (l : List Sp) (k i : Nat) (hk : k < l.length) (hi : i < 3) : (flatS l)[3 * k + i]? = l[k].A[i]? := by
  induction l generalizing k with
  | nil => exact absurd hk (Nat.not_lt_zero _)
  | cons s l ih =>
    have hl : s.A.toList.length = 3 := rfl
    cases k with
    | zero =>
      show (s.A.toList ++ flatS l)[3 * 0 + i]? = _
      rw [Nat.mul_zero, Nat.zero_add, List.getElem?_append_left (by rw [hl]; exact hi), Array.getElem?_toList]; rfl
    | succ k =>
      show (s.A.toList ++ flatS l)[3 * (k + 1) + i]? = _
      rw [List.getElem?_append_right (by rw [hl]; omega), hl, show 3 * (k + 1) + i - 3 = 3 * k + i by omega, ih k (by simpa using hk)]
      rfl
def begY (Y : Int) : Int := Cal.first Y * 86400
def Rc.sp (r : Rc) (Y t : Int) : Sp := ⟨t, r.off Y t, r.sum Y t⟩
abbrev Rc.tr (r : Rc) (Y : Int) : Int := trA r.b r.c r.d r.p r.q Y
abbrev Rc.ts (r : Rc) (Y : Int) : Int := trB r.b r.c r.d r.p r.q Y
/-- what has been drawn, and how clocks are set last -/
def spStep (r : Rc) (Y : Int) (s : List Sp × Int × Bool) (t : Int) : List Sp × Int × Bool :=
  if t ≤ begY Y ∨ begY (Y + 1) ≤ t then s
  else if eqB (r.off Y t) (r.sum Y t) s.2.1 s.2.2 = true then s else (s.1 ++ [r.sp Y t], r.off Y t, r.sum Y t)
where eqB (o : Int) (k : Bool) (o' : Int) (k' : Bool) : Bool := o == o' && k == k'
def sp0 (r : Rc) (Y : Int) : List Sp × Int × Bool := ([r.sp Y (begY Y)], r.off Y (begY Y), r.sum Y (begY Y))
def sp1 (r : Rc) (Y : Int) : List Sp × Int × Bool := spStep r Y (sp0 r Y) (min (r.tr Y) (r.ts Y))
def sp2 (r : Rc) (Y : Int) : List Sp × Int × Bool := spStep r Y (sp1 r Y) (max (r.tr Y) (r.ts Y))
def spL (r : Rc) (Y : Int) : List Sp := (sp2 r Y).1
theorem spStep_len (r : Rc) (Y : Int) (s : List Sp × Int × Bool) (t : Int) : s.1.length ≤ (spStep r Y s t).1.length ∧ (spStep r Y s t).1.length ≤ s.1.length + 1 := by
  unfold spStep
  split
  · simp
  · split
    · simp
    · simp
theorem spL_len (r : Rc) (Y : Int) : 1 ≤ (spL r Y).length ∧ (spL r Y).length ≤ 3 := by
  have a := spStep_len r Y (sp0 r Y) (min (r.tr Y) (r.ts Y))
  have b := spStep_len r Y (sp1 r Y) (max (r.tr Y) (r.ts Y))
  have c : (sp0 r Y).1.length = 1 := rfl
  unfold spL sp2
  unfold sp1 at b ⊢
  omega
theorem begY_lt {Y : Int} (h1 : 1 ≤ Y) : begY Y < begY (Y + 1) := by unfold begY Cal.first; omega
end Go.Proofs.YtgdgkgeoigljcaaDoor.Tb
