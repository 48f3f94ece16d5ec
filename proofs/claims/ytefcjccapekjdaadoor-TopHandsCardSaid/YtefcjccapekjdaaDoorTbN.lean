/-
  LOCAL, in plain Lean: there and back, gaps, no other instant.
-/
import Derived.Test.YtefcjccapekjdaaDoorTbM
namespace Go.Proofs.YtefcjccapekjdaaDoor.Tb
open Go.ChangeShapes Go.WideShapes Go.ChangeAt Go.RowKit
open Go.Proofs.YtefcjccapekjdaaDoor
open Go.Proofs.YtefcjccapekjdaaDoor.Rec
open Go.Proofs.YtefcjccapekjdaaDoor.Yr
open Go.Proofs.YtefcjccapekjdaaDoor.Clk (yrV yrE)
set_option linter.unusedVariables false
/-- what both tries are, by the year's record -/
theorem tries_eq {F L : Int} {l : List Rc} {c : Int} (h : atE F L l c = 0) :
    trS F L l c = c - (pick F L l (yrV c)).std ∧ trD F L l c = c - (pick F L l (yrV c)).dst ∧ isS F L l c = (!(pick F L l (yrV c)).sum (yrV c) (c - (pick F L l (yrV c)).std)) ∧ isD F L l c = (pick F L l (yrV c)).sum (yrV c) (c - (pick F L l (yrV c)).dst) := by
  unfold trS trD isS isD
  rw [if_pos h, if_pos h, if_pos h, if_pos h]
  exact ⟨rfl, rfl, rfl, rfl⟩
theorem frH_eq {F L : Int} {l : List Rc} {c : Int} (h : atE F L l c = 0) : frH F L l c = (if isS F L l c = true then (if isD F L l c = true then 2 else 1) else if isD F L l c = true then 1 else 3) := by
  unfold frH; rw [if_pos h]
theorem local_back {F L : Int} {l : List Rc} {s c : Int} (h : atE F L l s = 0) (hc : c = s + tOff F L l s) (he : yrE c = 0) (hy : yrV c = yrV s) :
    atE F L l c = 0 ∧ ((seB F L l c = false ∧ frH F L l c = 1 ∧ frC F L l c = s) ∨
      (seB F L l c = true ∧ frH F L l c = 2 ∧ frC F L l c = c - (pick F L l (yrV s)).std ∧ seC F L l c = c - (pick F L l (yrV s)).dst ∧ (pick F L l (yrV s)).std ≠ (pick F L l (yrV s)).dst ∧
        (pick F L l (yrV s)).sum (yrV s) (c - (pick F L l (yrV s)).std) = false ∧ (pick F L l (yrV s)).sum (yrV s) (c - (pick F L l (yrV s)).dst) = true ∧ (c - (pick F L l (yrV s)).std = s ∨ c - (pick F L l (yrV s)).dst = s))) := by
  have h' := atE_0.1 h
  have hE : atE F L l c = 0 := atE_0.2 ⟨h'.1, he, by rw [hy]; exact h'.2.2⟩
  obtain ⟨e1, e2, e3, e4⟩ := tries_eq hE
  have ho : tOff F L l s = (pick F L l (yrV s)).off (yrV s) s := by unfold tOff; rw [if_pos h]
  have hH := frH_eq hE
  unfold seB seC frC
  rw [hy] at e1 e2 e3 e4
  rw [hH]; clear hH
  rw [e1, e2, e3, e4]; clear e1 e2 e3 e4
  rw [ho] at hc
  refine ⟨hE, ?_⟩
  generalize pick F L l (yrV s) = r at *
  generalize yrV s = Y at *
  unfold Rc.off at hc
  generalize hsd : r.std = sd at *
  generalize hdd : r.dst = dd at *
  cases hs : r.sum Y s
  · rw [hs] at hc
    have hc' : c = s + sd := hc
    have e : c - sd = s := by omega
    rw [e, hs]
    cases hd : r.sum Y (c - dd)
    · left; simp
    · right
      refine ⟨rfl, rfl, ?_, ?_, ?_, rfl, rfl, Or.inl rfl⟩
      · simp
      · simp
      · intro h2; rw [← h2, e, hs] at hd; cases hd
  · rw [hs] at hc
    have hc' : c = s + dd := hc
    have e : c - dd = s := by omega
    rw [e, hs]
    cases hd : r.sum Y (c - sd)
    · right
      refine ⟨rfl, rfl, ?_, ?_, ?_, rfl, rfl, Or.inr rfl⟩
      · simp
      · simp
      · intro h2; rw [h2, e, hs] at hd; cases hd
    · left; simp
/-- of any time that can be told: the instant that is told of it -/
theorem local_gap {F L : Int} {l : List Rc} {c : Int} (h : atE F L l c = 0) :
    (frH F L l c ≠ 3 ∧ ((frC F L l c = c - (pick F L l (yrV c)).std ∧ (pick F L l (yrV c)).off (yrV c) (frC F L l c) = (pick F L l (yrV c)).std) ∨ (frC F L l c = c - (pick F L l (yrV c)).dst ∧ (pick F L l (yrV c)).off (yrV c) (frC F L l c) = (pick F L l (yrV c)).dst))) ∨
    (frH F L l c = 3 ∧ (pick F L l (yrV c)).sum (yrV c) (c - (pick F L l (yrV c)).std) = true ∧ (pick F L l (yrV c)).sum (yrV c) (c - (pick F L l (yrV c)).dst) = false ∧
      (((pick F L l (yrV c)).std < (pick F L l (yrV c)).dst ∧ frC F L l c = c - (pick F L l (yrV c)).std ∧ (pick F L l (yrV c)).off (yrV c) (frC F L l c) = (pick F L l (yrV c)).dst) ∨
       ((pick F L l (yrV c)).dst < (pick F L l (yrV c)).std ∧ frC F L l c = c - (pick F L l (yrV c)).dst ∧ (pick F L l (yrV c)).off (yrV c) (frC F L l c) = (pick F L l (yrV c)).std))) := by
  obtain ⟨e1, e2, e3, e4⟩ := tries_eq h
  have hH := frH_eq h
  unfold frC
  rw [hH]; clear hH
  rw [e1, e2, e3, e4]; clear e1 e2 e3 e4
  generalize pick F L l (yrV c) = r at *
  generalize yrV c = Y at *
  unfold Rc.off
  generalize hsd : r.std = sd at *
  generalize hdd : r.dst = dd at *
  cases hs : r.sum Y (c - sd)
  · left
    cases hd : r.sum Y (c - dd) <;> simp [hs]
  · cases hd : r.sum Y (c - dd)
    · right
      have hne : sd ≠ dd := by intro h2; rw [h2, hd] at hs; cases hs
      refine ⟨rfl, rfl, rfl, ?_⟩
      have hm : sd < dd ∨ dd < sd := by omega
      rcases hm with hm | hm
      · left
        have : max (c - sd) (c - dd) = c - sd := by omega
        simp [this, hs, hm]
      · right
        have : max (c - sd) (c - dd) = c - dd := by omega
        simp [this, hd, hm]
    · left; simp [hd]
/-- of any time that can be told, which of both instants show it -/
theorem local_four {F L : Int} {l : List Rc} {c : Int} (h : atE F L l c = 0) :
    (frH F L l c = 1 ∧ seB F L l c = false ∧ (pick F L l (yrV c)).std = (pick F L l (yrV c)).dst ∧ frC F L l c = c - (pick F L l (yrV c)).std) ∨
    ((pick F L l (yrV c)).std ≠ (pick F L l (yrV c)).dst ∧
     ((frH F L l c = 1 ∧ seB F L l c = false ∧ frC F L l c = c - (pick F L l (yrV c)).std ∧ (pick F L l (yrV c)).off (yrV c) (c - (pick F L l (yrV c)).std) = (pick F L l (yrV c)).std ∧ (pick F L l (yrV c)).off (yrV c) (c - (pick F L l (yrV c)).dst) = (pick F L l (yrV c)).std) ∨
      (frH F L l c = 1 ∧ seB F L l c = false ∧ frC F L l c = c - (pick F L l (yrV c)).dst ∧ (pick F L l (yrV c)).off (yrV c) (c - (pick F L l (yrV c)).std) = (pick F L l (yrV c)).dst ∧ (pick F L l (yrV c)).off (yrV c) (c - (pick F L l (yrV c)).dst) = (pick F L l (yrV c)).dst) ∨
      (frH F L l c = 2 ∧ seB F L l c = true ∧ frC F L l c = c - (pick F L l (yrV c)).std ∧ seC F L l c = c - (pick F L l (yrV c)).dst ∧ (pick F L l (yrV c)).off (yrV c) (c - (pick F L l (yrV c)).std) = (pick F L l (yrV c)).std ∧ (pick F L l (yrV c)).off (yrV c) (c - (pick F L l (yrV c)).dst) = (pick F L l (yrV c)).dst) ∨
      (frH F L l c = 3 ∧ seB F L l c = false ∧ (pick F L l (yrV c)).off (yrV c) (c - (pick F L l (yrV c)).std) = (pick F L l (yrV c)).dst ∧ (pick F L l (yrV c)).off (yrV c) (c - (pick F L l (yrV c)).dst) = (pick F L l (yrV c)).std))) := by
  obtain ⟨e1, e2, e3, e4⟩ := tries_eq h
  have hH := frH_eq h
  unfold frC seB seC
  rw [hH]; clear hH
  rw [e1, e2, e3, e4]; clear e1 e2 e3 e4
  generalize pick F L l (yrV c) = r at *
  generalize yrV c = Y at *
  unfold Rc.off
  generalize hsd : r.std = sd at *
  generalize hdd : r.dst = dd at *
  by_cases hne : sd = dd
  · left
    subst hne
    cases hs : r.sum Y (c - sd) <;> simp
  · right
    refine ⟨hne, ?_⟩
    cases hs : r.sum Y (c - sd) <;> cases hd : r.sum Y (c - dd) <;> simp
end Go.Proofs.YtefcjccapekjdaaDoor.Tb
