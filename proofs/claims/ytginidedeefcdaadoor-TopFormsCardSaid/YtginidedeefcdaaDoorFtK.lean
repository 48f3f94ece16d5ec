/-
  WHY THERE IS NO RECORD, as the statement FitWhy reckons it (plain Lean).
-/
import Derived.Test.YtginidedeefcdaaDoorFtY
namespace Go.Proofs.YtginidedeefcdaaDoor.Ft
open Go.ChangeShapes Go.WideShapes Go.ChangeAt Go.RowKit
open Go.Proofs.YtginidedeefcdaaDoor
open Go.Proofs.YtginidedeefcdaaDoor.Wd
open Go.Proofs.YtginidedeefcdaaDoor.Rec
open Go.Proofs.YtginidedeefcdaaDoor.Yr
open Go.Proofs.YtginidedeefcdaaDoor.Tb
open Go.Proofs.YtginidedeefcdaaDoor.Clk (yrV yrE)
set_option linter.unusedVariables false
set_option linter.unusedSimpArgs false
/-- whether one of the first k has it -/
def anyK (p : Nat → Bool) (k : Nat) : Bool := (List.range k).any p
theorem anyK_zero (p : Nat → Bool) : anyK p 0 = false := rfl
theorem anyK_succ (p : Nat → Bool) (k : Nat) : anyK p (k + 1) = (anyK p k || p k) := by
  unfold anyK; rw [List.range_succ, List.any_append]; simp
theorem anyK_yes {p : Nat → Bool} {n k : Nat} (hk : k < n) (h : p k = true) : anyK p n = true := by
  unfold anyK; rw [List.any_eq_true]; exact ⟨k, List.mem_range.2 hk, h⟩
theorem anyK_no {p : Nat → Bool} {n : Nat} (h : ∀ k, k < n → p k = false) : anyK p n = false := by
  unfold anyK; rw [List.any_eq_false]; intro k hk; rw [h k (List.mem_range.1 hk)]; decide
theorem anyK_of {p : Nat → Bool} {n : Nat} (h : anyK p n = true) : ∃ k, k < n ∧ p k = true := by
  unfold anyK at h; rw [List.any_eq_true] at h
  obtain ⟨k, hk, h2⟩ := h
  exact ⟨k, List.mem_range.1 hk, h2⟩
def minP (l : List Sp) (k : Nat) : Bool := decide ((at_ l k).o % 60 ≠ 0)
def farP (l : List Sp) (k : Nat) : Bool := decide ((at_ l k).o < -86400 ∨ 86400 < (at_ l k).o)
def shiP (l : List Sp) (i j : Nat) : Bool := shfP (at_ l i) (at_ l j)
/-- the time of a change by the clock ahead of it, as 64 bits have it -/
def ccW (l : List Sp) (i : Nat) : Int := IntKind.i64.wrap ((at_ l i).f + (at_ l (i - 1)).o)
def datQ (Y c : Int) : Bool := c != begY (Y + 1) && (yrE c != 0 || yrV c != Y)
def datP (l : List Sp) (Y : Int) (i : Nat) : Bool := decide (1 ≤ i) && datQ Y (ccW l i)
def kM (l : List Sp) (k : Nat) : Bool := anyK (minP l) k
def kF (l : List Sp) (k : Nat) : Bool := anyK (farP l) k
def kS (l : List Sp) (k : Nat) : Bool := anyK (fun i => anyK (shiP l i) l.length) k
def kD (l : List Sp) (Y : Int) (k : Nat) : Bool := anyK (datP l Y) k
theorem any_at {p : Sp → Bool} (l : List Sp) : l.any p = anyK (fun k => p (at_ l k)) l.length := by
  cases h : l.any p with
  | false => exact (anyK_no fun k hk => any_no h hk).symm
  | true =>
    rw [List.any_eq_true] at h
    obtain ⟨s, hs, h2⟩ := h
    obtain ⟨k, hk, rfl⟩ := List.getElem_of_mem hs
    rw [at_eq hk] at h2
    exact (anyK_yes hk h2).symm
theorem kM_eq (l : List Sp) : kM l l.length = minB l := (any_at (p := fun s => decide (s.o % 60 ≠ 0)) l).symm
theorem kF_eq (l : List Sp) : kF l l.length = farB l := (any_at (p := fun s => decide (s.o < -86400 ∨ 86400 < s.o)) l).symm
theorem shf_sym (a b : Sp) : shfP a b = shfP b a := by
  unfold shfP
  rw [show (a.d == b.d) = (b.d == a.d) by cases a.d <;> cases b.d <;> rfl, show (a.o != b.o) = (b.o != a.o) by rw [Bool.eq_iff_iff]; simp; omega]
theorem shf_self (a : Sp) : shfP a a = false := by unfold shfP; simp
theorem kS_eq (l : List Sp) : kS l l.length = shfB l := by
  cases h : shfB l with
  | false =>
    apply anyK_no; intro i hi
    apply anyK_no; intro j hj
    unfold shiP
    by_cases e : j < i
    · exact shf_no h hi e
    · by_cases e2 : i < j
      · rw [shf_sym]; exact shf_no h hj e2
      · obtain rfl : i = j := by omega
        exact shf_self _
  | true =>
    have h' := h
    unfold shfB at h'
    rw [List.any_eq_true] at h'
    obtain ⟨i, hi, h2⟩ := h'
    rw [List.any_eq_true] at h2
    obtain ⟨j, hj, h3⟩ := h2
    have hi := List.mem_range.1 hi
    have hj := List.mem_range.1 hj
    exact anyK_yes hi (anyK_yes (by omega) h3)
theorem cc_plain {l : List Sp} {Y : Int} (h1 : 1601 ≤ Y) (h2 : Y ≤ 9999) (hr : rgB l Y = true) (hf : farB l = false) {i : Nat} (hi : i < l.length) : ccW l i = ccV l i := by
  unfold rgB at hr
  rw [Bool.and_eq_true, decide_eq_true_iff] at hr
  obtain ⟨hk, hF, hL⟩ := hr
  have hb := begY_bd (Y := Y) (by omega) h2
  obtain ⟨f1, f2⟩ := mono_f hk i hi
  have a := any_no hf (k := i - 1) (by omega)
  rw [decide_eq_false_iff_not] at a
  unfold ccW ccV
  generalize (at_ l i).f = f at *
  generalize (at_ l (i - 1)).o = o at *
  simp [IntKind.wrap, IntKind.bits, IntKind.signed]; omega
theorem datQ_iff {Y c : Int} (h1 : 1601 ≤ Y) (h2 : Y ≤ 9999) : datQ Y c = decide (c < begY Y ∨ begY (Y + 1) < c) := by
  have hb := begY_bd (Y := Y) (by omega) h2
  unfold datQ
  by_cases e : c = begY (Y + 1)
  · subst e; simp; omega
  · have e1 : (c != begY (Y + 1)) = true := by rw [bne_iff_ne]; exact e
    rw [e1, Bool.true_and]
    by_cases hin : begY Y ≤ c ∧ c < begY (Y + 1)
    · obtain ⟨a, b⟩ := year_in (by omega) h2 hin.1 hin.2
      rw [a, b]; simp; omega
    · have : yrE c ≠ 0 ∨ yrV c ≠ Y := by
        by_cases a : yrE c = 0
        · right; intro b; have := year_of a b; omega
        · exact .inl a
      have t : (yrE c != 0 || yrV c != Y) = true := by simpa using this
      rw [t, eq_comm, decide_eq_true_iff]; omega
theorem kD_eq {l : List Sp} {Y : Int} (h1 : 1601 ≤ Y) (h2 : Y ≤ 9999) (hr : rgB l Y = true) (hf : farB l = false) : kD l Y l.length = datB l (begY Y) (begY (Y + 1)) := by
  cases h : datB l (begY Y) (begY (Y + 1)) with
  | false =>
    apply anyK_no; intro i hi
    unfold datP
    by_cases q : 1 ≤ i
    · have := dat_no h q hi
      rw [datQ_iff h1 h2, cc_plain h1 h2 hr hf hi]
      simp; omega
    · simp [q]
  | true =>
    unfold datB at h
    rw [List.any_eq_true] at h
    obtain ⟨i, hi, h2'⟩ := h
    have hi := List.mem_range.1 hi
    rw [decide_eq_true_iff] at h2'
    refine anyK_yes hi ?_
    unfold datP
    rw [datQ_iff h1 h2, cc_plain h1 h2 hr hf hi]
    simp; omega
/-- what the statement asks of each reason -/
theorem why_law {l : List Sp} {Y : Int} (h1 : 1601 ≤ Y) (h2 : Y ≤ 9999) (hr : rgB l Y = true) {v : Int} (hv : whyV l (begY Y) (begY (Y + 1)) = v) :
    (v = 0 ∧ kM l l.length = false ∧ kF l l.length = false ∧ kS l l.length = false ∧ kD l Y l.length = false ∧ l.length ≤ 3) ∨ (v = 1 ∧ kM l l.length = true) ∨
    (v = 2 ∧ kM l l.length = false ∧ kF l l.length = true) ∨ (v = 3 ∧ kM l l.length = false ∧ kF l l.length = false ∧ 3 < l.length) ∨
    (v = 4 ∧ kS l l.length = true ∧ l.length ≤ 3) ∨ (v = 5 ∧ kS l l.length = false ∧ kD l Y l.length = true ∧ l.length ≤ 3) := by
  rw [kM_eq, kF_eq, kS_eq]
  unfold whyV at hv
  cases hm : minB l with
  | true => rw [hm, if_pos rfl] at hv; exact .inr (.inl ⟨hv.symm, rfl⟩)
  | false =>
    rw [hm, if_neg (by decide)] at hv
    cases hf : farB l with
    | true => rw [hf, if_pos rfl] at hv; exact .inr (.inr (.inl ⟨hv.symm, rfl, rfl⟩))
    | false =>
      rw [hf, if_neg (by decide)] at hv
      rw [kD_eq h1 h2 hr hf]
      by_cases h3 : 3 < l.length
      · rw [if_pos h3] at hv; exact .inr (.inr (.inr (.inl ⟨hv.symm, rfl, rfl, h3⟩)))
      · rw [if_neg h3] at hv
        cases hs : shfB l with
        | true => rw [hs, if_pos rfl] at hv; exact .inr (.inr (.inr (.inr (.inl ⟨hv.symm, rfl, by omega⟩))))
        | false =>
          rw [hs, if_neg (by decide)] at hv
          cases hd : datB l (begY Y) (begY (Y + 1)) with
          | true => rw [hd, if_pos rfl] at hv; exact .inr (.inr (.inr (.inr (.inr ⟨hv.symm, rfl, rfl, by omega⟩))))
          | false => rw [hd, if_neg (by decide)] at hv; exact .inl ⟨hv.symm, rfl, rfl, rfl, rfl, by omega⟩
theorem fy_cases (l : List Sp) (Y : Int) : (fyE l Y ≠ 0 ∧ fyW l Y = 0 ∧ fyR l Y = Rc.nil) ∨ (fyE l Y = 0 ∧ fyW l Y ≠ 0 ∧ fyR l Y = Rc.nil) ∨ (fyE l Y = 0 ∧ fyW l Y = 0 ∧ fyR l Y = fitR l Y ∧ Good l Y) := by
  cases hY : inY Y with
  | false =>
    left
    exact ⟨by unfold fyE; rw [hY, if_pos rfl]; decide, by unfold fyW; rw [hY]; rfl, by unfold fyR fyB; rw [hY]; rfl⟩
  | true =>
    have hYY := of_decide_eq_true hY
    cases hr : rgB l Y with
    | false =>
      left
      exact ⟨by unfold fyE; rw [hY, hr, if_neg (by decide), if_pos rfl]; decide, by unfold fyW; rw [hY, hr]; rfl, by unfold fyR fyB; rw [hY, hr]; rfl⟩
    | true =>
      right
      have e3 : fyE l Y = 0 := by unfold fyE; rw [hY, hr]; rfl
      have e2 : fyW l Y = whyV l (begY Y) (begY (Y + 1)) := by unfold fyW; rw [hY, hr]; rfl
      by_cases hz : whyV l (begY Y) (begY (Y + 1)) = 0
      · right
        have hr' := hr
        unfold rgB at hr'
        rw [Bool.and_eq_true, decide_eq_true_iff] at hr'
        exact ⟨e3, by rw [e2, hz], by unfold fyR fyB; rw [hY, hr, hz]; rfl, ⟨hYY.1, hYY.2, hr'.1, hr'.2.1, hr'.2.2, hz⟩⟩
      · left
        exact ⟨e3, by rw [e2]; exact hz, by unfold fyR fyB; rw [hY, hr]; rw [if_neg]; intro h; simp at h; exact hz h⟩
end Go.Proofs.YtginidedeefcdaaDoor.Ft
