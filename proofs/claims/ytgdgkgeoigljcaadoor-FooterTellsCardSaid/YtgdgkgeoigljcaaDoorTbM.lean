/-
  TABLES, in plain Lean: which record a year has; what its clocks show, and when they show it.
-/
import Derived.Test.YtgdgkgeoigljcaaDoorYrB
namespace Go.Proofs.YtgdgkgeoigljcaaDoor.Tb
open Go.ChangeShapes Go.WideShapes Go.ChangeAt Go.RowKit
open Go.Proofs.YtgdgkgeoigljcaaDoor
open Go.Proofs.YtgdgkgeoigljcaaDoor.Wd
open Go.Proofs.YtgdgkgeoigljcaaDoor.Rec
open Go.Proofs.YtgdgkgeoigljcaaDoor.Yr
set_option linter.unusedVariables false
/-- a record's numbers -/
structure Rc where
  b : Int
  c : Int
  d : Int
  p : St
  q : St
abbrev Rc.A (r : Rc) : Array Value := rcA r.b r.c r.d r.p r.q
abbrev Rc.V (r : Rc) : Value := rcV r.b r.c r.d r.p r.q
abbrev Rc.Bd (r : Rc) : Prop := RBd r.b r.c r.d r.p r.q
abbrev Rc.ok (r : Rc) : Bool := rcOk r.b r.c r.d r.p r.q
abbrev Rc.nil : Rc := ⟨0, 0, 0, St.nil, St.nil⟩
abbrev Rc.std (r : Rc) : Int := offS r.b r.c
abbrev Rc.dst (r : Rc) : Int := offS r.b r.d
abbrev Rc.sum (r : Rc) (Y t : Int) : Bool := sumB (trA r.b r.c r.d r.p r.q Y) (trB r.b r.c r.d r.p r.q Y) t
def Rc.off (r : Rc) (Y t : Int) : Int := if r.sum Y t = true then r.dst else r.std
theorem Rc.tr0 {r : Rc} (h : r.ok = true) {Y : Int} (h1 : 1601 ≤ Y) (h2 : Y ≤ 9999) : trE r.b r.c r.d r.p r.q Y = 0 := by
  have h' : rcOk r.b r.c r.d r.p r.q = true := h
  unfold trE; rw [if_neg (by rw [h']; decide), if_neg (by omega)]
theorem Rc.atO_eq {r : Rc} (h : r.ok = true) {Y : Int} (h1 : 1601 ≤ Y) (h2 : Y ≤ 9999) (t : Int) : atO r.b r.c r.d r.p r.q Y t = r.off Y t := by
  unfold atO; rw [if_pos (Rc.tr0 h h1 h2)]; rfl
theorem Rc.atB_eq {r : Rc} (h : r.ok = true) {Y : Int} (h1 : 1601 ≤ Y) (h2 : Y ≤ 9999) (t : Int) : atB r.b r.c r.d r.p r.q Y t = r.sum Y t := by
  unfold atB; rw [if_pos (Rc.tr0 h h1 h2)]
theorem Rc.near {r : Rc} (h : r.ok = true) : (-86400 ≤ r.std ∧ r.std ≤ 86400) ∧ (-86400 ≤ r.dst ∧ r.dst ≤ 86400) := by
  have h' : rcOk r.b r.c r.d r.p r.q = true := h
  unfold rcOk at h'
  rw [Bool.and_eq_true, Bool.and_eq_true, Bool.and_eq_true] at h'
  have h4 := h'.2.2.2
  simp only [List.all_cons, List.all_nil, Bool.and_true, Bool.and_eq_true] at h4
  exact ⟨near_iff h4.1, near_iff h4.2⟩
theorem Rc.off_near {r : Rc} (h : r.ok = true) (Y t : Int) : -86400 ≤ r.off Y t ∧ r.off Y t ≤ 86400 := by
  have := Rc.near h
  unfold Rc.off; split <;> omega
/-- all cells of a list of records -/
def flat : List Rc → List Value
  | [] => []
  | r :: l => r.A.toList ++ flat l
theorem flat_cons (r : Rc) (l : List Rc) : ∃ L : List Value, L.length = 19 ∧ (∀ i : Nat, L[i]? = r.A[i]?) ∧ flat (r :: l) = L ++ flat l := ⟨r.A.toList, rfl, fun i => Array.getElem?_toList, rfl⟩
theorem flat_len (l : List Rc) : (flat l).length = l.length * 19 := by
  induction l with
  | nil => rfl
  | cons r l ih =>
    obtain ⟨L, h1, _, h2⟩ := flat_cons r l
    rw [h2, List.length_append, ih, h1, List.length_cons]; omega
theorem flat_at (l : List Rc) (k i : Nat) (hk : k < l.length) (hi : i < 19) : (flat l)[19 * k + i]? = l[k].A[i]? := by
  induction l generalizing k with
  | nil => exact absurd hk (Nat.not_lt_zero _)
  | cons r l ih =>
    obtain ⟨L, h1, h3, h2⟩ := flat_cons r l
    rw [h2]
    cases k with
    | zero => rw [List.getElem?_append_left (by omega), Nat.mul_zero, Nat.zero_add, h3]; rfl
    | succ k =>
      rw [List.getElem?_append_right (by omega), h1, show 19 * (k + 1) + i - 19 = 19 * k + i by omega, ih k (Nat.lt_of_succ_lt_succ hk)]; rfl
def okL (l : List Rc) : Bool := l.all Rc.ok
def bdT (F L : Int) : Bool := decide (1601 ≤ F ∧ F ≤ 9999 ∧ F ≤ L ∧ L ≤ 9999 ∧ L < F + 400)
def tbOk (F L : Int) (l : List Rc) : Bool := bdT F L && (decide ((l.length : Int) = L - F + 1) && okL l)
def tbE (F L : Int) (l : List Rc) : Int := if tbOk F L l = true then 0 else 2
def idx (F L y : Int) : Int := min (max y F) L - F
def pick (F L : Int) (l : List Rc) (y : Int) : Rc := l.getD (idx F L y).toNat Rc.nil
theorem tb_ok {F L : Int} {l : List Rc} (h : tbOk F L l = true) : (1601 ≤ F ∧ F ≤ 9999 ∧ F ≤ L ∧ L ≤ 9999 ∧ L < F + 400) ∧ (l.length : Int) = L - F + 1 ∧ okL l = true := by
  unfold tbOk bdT at h
  rw [Bool.and_eq_true, Bool.and_eq_true] at h
  exact ⟨by simpa using h.1, by simpa using h.2.1, h.2.2⟩
theorem idx_bd {F L : Int} {l : List Rc} (h : tbOk F L l = true) (y : Int) : 0 ≤ idx F L y ∧ (idx F L y).toNat < l.length ∧ ((idx F L y).toNat : Int) = idx F L y := by
  obtain ⟨⟨h1, h2, h3, h4, h5⟩, h6, _⟩ := tb_ok h
  unfold idx; omega
theorem pick_eq {F L : Int} {l : List Rc} (h : tbOk F L l = true) (y : Int) : pick F L l y = l[(idx F L y).toNat]'(idx_bd h y).2.1 := by
  unfold pick; rw [List.getD_eq_getElem?_getD, List.getElem?_eq_getElem (idx_bd h y).2.1]; rfl
theorem pick_mem {F L : Int} {l : List Rc} (h : tbOk F L l = true) (y : Int) : pick F L l y ∈ l := by
  rw [pick_eq h y]; exact List.getElem_mem _
theorem pick_ok {F L : Int} {l : List Rc} (h : tbOk F L l = true) (y : Int) : (pick F L l y).ok = true := by
  have := (tb_ok h).2.2
  unfold okL at this
  exact List.all_eq_true.1 this _ (pick_mem h y)
end Go.Proofs.YtgdgkgeoigljcaaDoor.Tb
