/-
  A RECORD FOR A YEAR, in plain Lean: why there is none, and which one there is.
-/
import Derived.Test.YtefcjccapekjdaaDoorSpM
import Derived.Test.YtefcjccapekjdaaDoorQm
namespace Go.Proofs.YtefcjccapekjdaaDoor.Ft
open Go.ChangeShapes Go.WideShapes Go.ChangeAt Go.RowKit
open Go.Proofs.YtefcjccapekjdaaDoor
open Go.Proofs.YtefcjccapekjdaaDoor.Wd
open Go.Proofs.YtefcjccapekjdaaDoor.Rec
open Go.Proofs.YtefcjccapekjdaaDoor.Yr
open Go.Proofs.YtefcjccapekjdaaDoor.Tb
open Go.Proofs.YtefcjccapekjdaaDoor.Clk (yrV yrE)
set_option linter.unusedVariables false
abbrev sn : Sp := ⟨0, 0, false⟩
abbrev at_ (l : List Sp) (k : Nat) : Sp := l.getD k sn
theorem at_eq {l : List Sp} {k : Nat} (h : k < l.length) : l[k] = at_ l k := by
  show l[k] = l.getD k sn
  rw [List.getD_eq_getElem?_getD, List.getElem?_eq_getElem h]; rfl
def alk (a b : Sp) : Bool := a.o == b.o && a.d == b.d
def adj (a b : Sp) : Bool := decide (a.f < b.f) && !alk b a
def chn (l : List Sp) : Bool := (List.range l.length).all fun i => decide (l.length ≤ i + 1) || adj (at_ l i) (at_ l (i + 1))
theorem chn_iff {l : List Sp} : chn l = true ↔ ∀ i, i + 1 < l.length → adj (at_ l i) (at_ l (i + 1)) = true := by
  unfold chn
  rw [List.all_eq_true]
  constructor
  · intro h i hi
    have := h i (List.mem_range.2 (by omega))
    rw [Bool.or_eq_true, decide_eq_true_iff] at this
    rcases this with q | q
    · omega
    · exact q
  · intro h i hi
    have hi := List.mem_range.1 hi
    rw [Bool.or_eq_true, decide_eq_true_iff]
    by_cases q : i + 1 < l.length
    · exact .inr (h i q)
    · exact .inl (by omega)
def lkB (l : List Sp) : Bool := decide (0 < l.length) && chn l
def lkE (l : List Sp) : Int := if lkB l = true then 0 else 2
theorem lk_iff {l : List Sp} : lkB l = true ↔ 0 < l.length ∧ ∀ i, i + 1 < l.length → adj (at_ l i) (at_ l (i + 1)) = true := by
  unfold lkB; rw [Bool.and_eq_true, decide_eq_true_iff, chn_iff]
/-- the time of a change by the clock ahead of it -/
def ccV (l : List Sp) (i : Nat) : Int := (at_ l i).f + (at_ l (i - 1)).o
def minB (l : List Sp) : Bool := l.any fun s => decide (s.o % 60 ≠ 0)
def farB (l : List Sp) : Bool := l.any fun s => decide (s.o < -86400 ∨ 86400 < s.o)
def shfP (a b : Sp) : Bool := a.d == b.d && a.o != b.o
def shfB (l : List Sp) : Bool := (List.range l.length).any fun i => (List.range i).any fun j => shfP (at_ l i) (at_ l j)
def datB (l : List Sp) (F T : Int) : Bool := (List.range l.length).any fun i => decide (1 ≤ i ∧ (ccV l i < F ∨ T < ccV l i))
def whyV (l : List Sp) (F T : Int) : Int := if minB l = true then 1 else if farB l = true then 2 else if 3 < l.length then 3 else if shfB l = true then 4 else if datB l F T = true then 5 else 0
theorem any_no {p : Sp → Bool} {l : List Sp} (h : l.any p = false) {k : Nat} (hk : k < l.length) : p (at_ l k) = false := by
  rw [← at_eq hk]
  have := List.any_eq_false.1 h l[k] (List.getElem_mem hk)
  simpa using this
theorem any_yes {p : Sp → Bool} {l : List Sp} {k : Nat} (hk : k < l.length) (h : p (at_ l k) = true) : l.any p = true := by
  rw [List.any_eq_true]; exact ⟨l[k], List.getElem_mem hk, by rw [at_eq hk]; exact h⟩
theorem any_none {p : Sp → Bool} {l : List Sp} (h : ∀ k, k < l.length → p (at_ l k) = false) : l.any p = false := by
  rw [List.any_eq_false]
  intro s hs
  obtain ⟨k, hk, rfl⟩ := List.getElem_of_mem hs
  rw [at_eq hk, h k hk]; decide
theorem shf_no {l : List Sp} (h : shfB l = false) {i j : Nat} (hi : i < l.length) (hj : j < i) : shfP (at_ l i) (at_ l j) = false := by
  unfold shfB at h
  have := List.any_eq_false.1 h i (List.mem_range.2 hi)
  have h2 : ((List.range i).any fun j => shfP (at_ l i) (at_ l j)) = false := by simpa using this
  have := List.any_eq_false.1 h2 j (List.mem_range.2 hj)
  simpa using this
theorem shf_yes {l : List Sp} {i j : Nat} (hi : i < l.length) (hj : j < i) (h : shfP (at_ l i) (at_ l j) = true) : shfB l = true := by
  unfold shfB
  rw [List.any_eq_true]
  exact ⟨i, List.mem_range.2 hi, by rw [List.any_eq_true]; exact ⟨j, List.mem_range.2 hj, h⟩⟩
theorem shf_none {l : List Sp} (h : ∀ i j, i < l.length → j < i → shfP (at_ l i) (at_ l j) = false) : shfB l = false := by
  cases hb : shfB l with
  | false => rfl
  | true =>
    unfold shfB at hb
    rw [List.any_eq_true] at hb
    obtain ⟨i, hi, h2⟩ := hb
    rw [List.any_eq_true] at h2
    obtain ⟨j, hj, h3⟩ := h2
    rw [h i j (List.mem_range.1 hi) (List.mem_range.1 hj)] at h3; cases h3
theorem dat_no {l : List Sp} {F T : Int} (h : datB l F T = false) {i : Nat} (h1 : 1 ≤ i) (hi : i < l.length) : F ≤ ccV l i ∧ ccV l i ≤ T := by
  unfold datB at h
  have := List.any_eq_false.1 h i (List.mem_range.2 hi)
  rw [decide_eq_true_iff] at this
  omega
theorem dat_yes {l : List Sp} {F T : Int} {i : Nat} (h1 : 1 ≤ i) (hi : i < l.length) (h : ccV l i < F ∨ T < ccV l i) : datB l F T = true := by
  unfold datB
  rw [List.any_eq_true]
  exact ⟨i, List.mem_range.2 hi, by rw [decide_eq_true_iff]; exact ⟨h1, h⟩⟩
theorem dat_none {l : List Sp} {F T : Int} (h : ∀ i, 1 ≤ i → i < l.length → F ≤ ccV l i ∧ ccV l i ≤ T) : datB l F T = false := by
  cases hb : datB l F T with
  | false => rfl
  | true =>
    unfold datB at hb
    rw [List.any_eq_true] at hb
    obtain ⟨i, hi, h2⟩ := hb
    rw [decide_eq_true_iff] at h2
    have := h i h2.1 (List.mem_range.1 hi)
    omega
theorem why_parts {l : List Sp} {F T : Int} (h : whyV l F T = 0) : minB l = false ∧ farB l = false ∧ l.length ≤ 3 ∧ shfB l = false ∧ datB l F T = false := by
  unfold whyV at h
  split at h
  · cases h
  split at h
  · cases h
  split at h
  · cases h
  split at h
  · cases h
  split at h
  · cases h
  rename_i h1 h2 h3 h4 h5
  exact ⟨by simpa using h1, by simpa using h2, by omega, by simpa using h4, by simpa using h5⟩
theorem why_0 {l : List Sp} {F T : Int} (h1 : minB l = false) (h2 : farB l = false) (h3 : l.length ≤ 3) (h4 : shfB l = false) (h5 : datB l F T = false) : whyV l F T = 0 := by
  unfold whyV; rw [h1, h2, h4, h5]; simp; omega
/-- the stamp of a clock's time -/
def fsOk (c : Int) : Bool := decide (yrE c = 0 ∧ 1601 ≤ yrV c)
def fsS (c : Int) : St := ⟨0, Cal.ofMV (c / 86400), Cal.wday (c / 86400), if Cal.mlen (Cal.ofYV (c / 86400)) (Cal.ofMV (c / 86400)) - 7 < Cal.ofDV (c / 86400) then 5 else (Cal.ofDV (c / 86400) - 1) / 7 + 1, c % 86400 / 3600, c % 86400 / 60 % 60, c % 86400 % 60, 0⟩
def fsE (c : Int) : Int := if fsOk c = true then 0 else 1
def fsV (c : Int) : St := if fsOk c = true then fsS c else St.nil
def enA (Y : Int) : St := fsS (begY Y)
def enB (Y : Int) : St := { fsS (begY (Y + 1) - 1) with u := 999 }
def lastO (d : Bool) : List Sp → Int → Int
  | [], z => z
  | s :: r, z => lastO d r (if s.d = d then s.o else z)
def stAt (l : List Sp) (Y : Int) (i : Nat) : St := if ccV l i = begY (Y + 1) then enB Y else fsS (ccV l i)
/-- the stamp of the last change to a kind, from the i-th change on -/
def atK (l : List Sp) (Y : Int) (d : Bool) : Nat → St → St
  | 0, z => z
  | i + 1, z => if (at_ l (i + 1)).d = d then stAt l Y (i + 1) else atK l Y d i z
def fitR (l : List Sp) (Y : Int) : Rc :=
  if l.length = 1 ∧ (at_ l 0).d = false then ⟨-((at_ l 0).o / 60), 0, 0, St.nil, St.nil⟩
  else ⟨-(lastO false l 0 / 60), 0, (lastO false l 0 - lastO true l 0) / 60, atK l Y false (l.length - 1) (if 0 < lastO true l 0 then enA Y else enB Y), atK l Y true (l.length - 1) (if 0 ≤ lastO false l 0 then enA Y else enB Y)⟩
end Go.Proofs.YtefcjccapekjdaaDoor.Ft
