/-
  THE FOOTER'S TEXT, in plain Lean: names, offsets, stamps, and how they are written.
-/
import Derived.Test.YtgdgkgeoigljcaaDoorQm
import Derived.Test.YtgdgkgeoigljcaaDoorSpM
import Derived.Lib.ItoaNum
namespace Go.Proofs.YtgdgkgeoigljcaaDoor.Fo
open Go.ChangeShapes Go.WideShapes Go.ChangeAt Go.RowKit
open Go.Proofs.YtgdgkgeoigljcaaDoor
open Go.Proofs.YtgdgkgeoigljcaaDoor.Rec
open Go.Proofs.YtgdgkgeoigljcaaDoor.Tb (Rc)
set_option linter.unusedVariables false
set_option linter.unusedSimpArgs false
abbrev L (s : ByteArray) : List UInt8 := s.data.toList
abbrev B (l : List UInt8) : ByteArray := ⟨l.toArray⟩
theorem L_len (s : ByteArray) : (L s).length = s.size := Array.length_toList
theorem B_len (l : List UInt8) : (B l).size = l.length := by show l.toArray.size = _; simp
theorem B_L (s : ByteArray) : B (L s) = s := by apply ByteArray.ext; simp [L, B]
def letB (b : UInt8) : Bool := decide ((97 ≤ b.toNat ∧ b.toNat ≤ 122) ∨ (65 ≤ b.toNat ∧ b.toNat ≤ 90))
def dgB (b : UInt8) : Bool := decide (48 ≤ b.toNat ∧ b.toNat ≤ 57)
def nmC (b : UInt8) : Bool := letB b || (dgB b || (b == 43 || b == 45))
/-- how many letters a text begins with -/
def ltN : List UInt8 → Nat
  | [] => 0
  | b :: r => if letB b = true then ltN r + 1 else 0
theorem ltN_le : ∀ l : List UInt8, ltN l ≤ l.length
  | [] => Nat.le_refl _
  | b :: r => by
    have := ltN_le r
    unfold ltN
    split <;> simp <;> omega
theorem ltN_all : ∀ l : List UInt8, (ltN l = l.length ↔ l.all letB = true)
  | [] => by simp [ltN]
  | b :: r => by
    have ih := ltN_all r
    have hl := ltN_le r
    unfold ltN
    rw [List.all_cons]
    by_cases h : letB b = true
    · rw [if_pos h, h]; simp [← ih]
    · rw [if_neg h]
      have : letB b = false := by simpa using h
      rw [this]; simp
/-- the k-th byte ends the letters, or goes on -/
theorem ltN_at : ∀ (l : List UInt8) (k : Nat), (∀ b ∈ l.take k, letB b = true) → (∀ h : k < l.length, letB l[k] = false) → k ≤ l.length → ltN l = k
  | [], k, _, _, h => by have : k = 0 := by simpa using h
                         subst this; rfl
  | b :: r, 0, _, h, _ => by
    have : letB b = false := h (by simp)
    unfold ltN; rw [this]; rfl
  | b :: r, k + 1, h1, h2, h3 => by
    have hb : letB b = true := h1 b (by simp)
    unfold ltN
    rw [if_pos hb, ltN_at r k (fun c hc => h1 c (by simp [hc])) (fun h => h2 (by simpa using h)) (by simpa using h3)]
def nameB (l : List UInt8) : Bool := decide (3 ≤ l.length ∧ l.length ≤ 32) && l.all nmC
def numT (n : Nat) : List UInt8 := if n < 10 then [UInt8.ofNat (48 + n)] else [UInt8.ofNat (48 + n / 10), UInt8.ofNat (48 + n % 10)]
def twoT (n : Nat) : List UInt8 := [58, UInt8.ofNat (48 + n / 10 % 10), UInt8.ofNat (48 + n % 10)]
def nameT (s : List UInt8) : List UInt8 := if ltN s = s.length then s else 60 :: (s ++ [62])
def offT (z : Int) : List UInt8 := (if 0 < z then [45] else []) ++ (numT (z.natAbs / 3600) ++ (if z.natAbs % 3600 / 60 = 0 then [] else twoT (z.natAbs % 3600 / 60)))
def clT (x : St) : List UInt8 := if x.h = 2 ∧ x.i = 0 ∧ x.s = 0 then [] else 47 :: (numT x.h.toNat ++ ((if x.i = 0 ∧ x.s = 0 then [] else twoT x.i.toNat) ++ (if x.s = 0 then [] else twoT x.s.toNat)))
def stT (x : St) : List UInt8 := 77 :: (numT x.m.toNat ++ 46 :: (numT x.d.toNat ++ 46 :: (numT x.v.toNat ++ clT x)))
def each (x : St) : Bool := x.y == 0 && x.u == 0
def foT (r : Rc) (a b : List UInt8) : List UInt8 :=
  nameT a ++ (offT r.std ++ (if r.p.zero = true then [] else nameT b ++ ((if r.dst = r.std + 3600 then [] else offT r.dst) ++ 44 :: (stT r.q ++ 44 :: stT r.p))))
def foE (r : Rc) (a b : List UInt8) : Int :=
  if r.ok = false then 2 else if (each r.p && each r.q) = false then 3 else if nameB a = false ∨ (r.p.zero = false ∧ nameB b = false) ∨ (r.p.zero = true ∧ b ≠ []) then 7 else 0
theorem itoa_num {z : Int} (h0 : 0 ≤ z) (h : z < 100) : Lib.itoa z = numT z.toNat := by
  unfold Lib.itoa numT
  rw [if_neg (by omega)]
  obtain ⟨n, rfl⟩ : ∃ n : Nat, z = n := ⟨z.toNat, by omega⟩
  have e : ((n : Int)).toNat = n := by omega
  rw [e]
  rw [Lib.decDigits]
  by_cases q : n < 10
  · rw [dif_pos q, if_pos q]
  · rw [dif_neg q, if_neg q, Lib.decDigits, dif_pos (by omega)]; rfl
theorem num_len (n : Nat) : 1 ≤ (numT n).length ∧ (numT n).length ≤ 2 := by unfold numT; split <;> simp
theorem two_len (n : Nat) : (twoT n).length = 3 := rfl
theorem off_len (z : Int) : (offT z).length ≤ 6 := by
  have := num_len (z.natAbs / 3600)
  unfold offT
  simp only [List.length_append]
  split <;> split <;> simp [two_len] <;> omega
theorem cl_len (x : St) : (clT x).length ≤ 9 := by
  have := num_len x.h.toNat
  unfold clT
  split
  · simp
  · simp only [List.length_cons, List.length_append]
    split <;> split <;> simp [two_len] <;> omega
theorem st_len (x : St) : (stT x).length ≤ 18 := by
  have h1 := num_len x.m.toNat; have h2 := num_len x.d.toNat; have h3 := num_len x.v.toNat; have h4 := cl_len x
  unfold stT
  simp only [List.length_cons, List.length_append]
  omega
theorem name_len (s : List UInt8) : (nameT s).length ≤ s.length + 2 := by unfold nameT; split <;> simp
end Go.Proofs.YtgdgkgeoigljcaaDoor.Fo
