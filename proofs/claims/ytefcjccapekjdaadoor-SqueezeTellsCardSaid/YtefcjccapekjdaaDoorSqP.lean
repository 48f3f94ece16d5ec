/-
  THE SHORTEST TABLE, in plain Lean: it is right, tells the plan, and none of its ends can be left out.
-/
import Derived.Test.YtefcjccapekjdaaDoorSqQ
import Derived.Test.YtefcjccapekjdaaDoorSqT
import Derived.Test.YtefcjccapekjdaaDoorSqM
namespace Go.Proofs.YtefcjccapekjdaaDoor.Sq
open Go.ChangeShapes Go.WideShapes Go.ChangeAt Go.RowKit
open Go.Proofs.YtefcjccapekjdaaDoor
open Go.Proofs.YtefcjccapekjdaaDoor.Wd
open Go.Proofs.YtefcjccapekjdaaDoor.Rec
open Go.Proofs.YtefcjccapekjdaaDoor.Yr
open Go.Proofs.YtefcjccapekjdaaDoor.Clk (yrV yrE)
open Go.Proofs.YtefcjccapekjdaaDoor.Civ (Tab Inv)
set_option linter.unusedVariables false
open Go.Proofs.YtefcjccapekjdaaDoor.Tb
theorem mem_ra {l : List Rc} {r : Rc} (h : r ∈ l) : ∃ k, k < l.length ∧ r = ra_ l k := by
  obtain ⟨k, hk, e⟩ := List.getElem_of_mem h
  exact ⟨k, hk, by rw [← e, ra_eq hk]⟩
theorem pl_ok {P : Int} {l : List Rc} {q : List Int} (h : plE P l q = 0) : (1601 ≤ P ∧ 1 ≤ l.length ∧ l.length ≤ 400 ∧ q.length = l.length ∧ P ≤ 10000 - (l.length : Int)) ∧ (∀ i, i < l.length → (ra_ l i).ok = true) ∧ plOk P l q = true := by
  have h2 : plOk P l q = true := by
    unfold plE at h
    cases e : plOk P l q with
    | true => rfl
    | false => rw [e] at h; simp at h
  obtain ⟨k, m⟩ := pl_iff.1 h2
  exact ⟨k, fun i hi => (m i hi).1, h2⟩
theorem okL_sub {l : List Rc} {t : List Rc} (h : ∀ i, i < l.length → (ra_ l i).ok = true) (ht : ∀ r ∈ t, r ∈ l) : okL t = true := by
  unfold okL
  rw [List.all_eq_true]
  intro r hr
  obtain ⟨k, hk, rfl⟩ := mem_ra (ht r hr)
  exact h k hk
theorem sq_tb {P : Int} {l : List Rc} {q : List Int} {a b : Nat} (h : plE P l q = 0) (hS : SqT l a b) : tbE (P + (a : Int)) (P + (b : Int)) (sub l a b) = 0 := by
  obtain ⟨⟨k1, k2, k3, k4, k5⟩, hall, hp⟩ := pl_ok h
  have h1 := hS.le; have h2 := hS.lt
  have hk : tbOk (P + (a : Int)) (P + (b : Int)) (sub l a b) = true := by
    unfold tbOk bdT
    rw [sub_len h1 h2, okL_sub hall (fun r hr => List.mem_of_mem_drop (List.mem_of_mem_take hr)), Bool.and_eq_true, Bool.and_eq_true]
    exact ⟨decide_eq_true (by omega), decide_eq_true (by omega), rfl⟩
  unfold tbE; rw [if_pos hk]
theorem tbE_ok {F L : Int} {t : List Rc} (h : tbE F L t = 0) : tbOk F L t = true := by
  unfold tbE at h
  cases e : tbOk F L t with
  | true => rfl
  | false => rw [e] at h; simp at h
theorem sq_pick {P : Int} {l : List Rc} {a b i : Nat} (hS : SqT l a b) (hi : i < l.length) : pick (P + (a : Int)) (P + (b : Int)) (sub l a b) (P + (i : Int)) = ra_ l i := by
  have h1 := hS.le; have h2 := hS.lt
  show ra_ (sub l a b) (idx (P + (a : Int)) (P + (b : Int)) (P + (i : Int))).toNat = _
  by_cases g : i ≤ a
  · have e : (idx (P + (a : Int)) (P + (b : Int)) (P + (i : Int))).toNat = 0 := by unfold idx; omega
    rw [e, sub_at (Nat.zero_le _), Nat.add_zero, hS.a0 a (Nat.le_refl _), hS.a0 i g]
  · by_cases g2 : b ≤ i
    · have e : (idx (P + (a : Int)) (P + (b : Int)) (P + (i : Int))).toNat = b - a := by unfold idx; omega
      rw [e, sub_at (Nat.le_refl _), show a + (b - a) = b by omega, hS.b0 b (Nat.le_refl _) h2, hS.b0 i g2 hi]
    · have e : (idx (P + (a : Int)) (P + (b : Int)) (P + (i : Int))).toNat = i - a := by unfold idx; omega
      rw [e, sub_at (by omega), show a + (i - a) = i by omega]
theorem sq_pk {P : Int} {l : List Rc} {q : List Int} {a b i : Nat} (h : plE P l q = 0) (hS : SqT l a b) (hi : i < l.length) :
    pkE (P + (a : Int)) (P + (b : Int)) (sub l a b) (P + (i : Int)) = 0 ∧ pkR (P + (a : Int)) (P + (b : Int)) (sub l a b) (P + (i : Int)) = ra_ l i := by
  obtain ⟨⟨k1, k2, k3, k4, k5⟩, hall, hp⟩ := pl_ok h
  have e : pkE (P + (a : Int)) (P + (b : Int)) (sub l a b) (P + (i : Int)) = 0 := by
    unfold pkE
    rw [if_neg (by rw [tbE_ok (sq_tb h hS)]; decide), if_pos ⟨by omega, by omega⟩]
  refine ⟨e, ?_⟩
  unfold pkR
  rw [if_pos e, sq_pick hS hi]
theorem sq_tells {P : Int} {l : List Rc} {q : List Int} {a b : Nat} (h : plE P l q = 0) (hS : SqT l a b) : tlOk (P + (a : Int)) (P + (b : Int)) (sub l a b) P l q = true := by
  refine tl_yes h fun k hk => ?_
  obtain ⟨e1, e2⟩ := sq_pk h hS hk
  unfold tlAt
  rw [e1, e2, eqRc_iff.2 rfl]; rfl
theorem pick_no {F L : Int} {t : List Rc} {P : Int} {l : List Rc} {q : List Int} {k j : Nat} (hk : k < l.length) (hj : (idx F L (P + (k : Int))).toNat = j) (hne : ra_ t j ≠ ra_ l k) : tlOk F L t P l q = false := by
  refine tl_no2 hk ?_
  unfold tlAt
  by_cases e : pkE F L t (P + (k : Int)) = 0
  · have e2 : pkR F L t (P + (k : Int)) = ra_ t j := by
      unfold pkR; rw [if_pos e]; show ra_ t (idx F L (P + (k : Int))).toNat = _; rw [hj]
    rw [e2]
    have : eqRc (ra_ t j) (ra_ l k) = false := by
      cases g : eqRc (ra_ t j) (ra_ l k) with
      | false => rfl
      | true => exact absurd (eqRc_iff.1 g) hne
    rw [this, Bool.and_false]
  · rw [decide_eq_false e]; rfl
theorem ra_drop (l : List Rc) (k j : Nat) : ra_ (l.drop k) j = ra_ l (k + j) := by
  show (l.drop k).getD j Rc.nil = l.getD (k + j) Rc.nil
  rw [List.getD_eq_getElem?_getD, List.getD_eq_getElem?_getD, List.getElem?_drop]
theorem ra_take (l : List Rc) {k j : Nat} (h : j < k) : ra_ (l.take k) j = ra_ l j := by
  show (l.take k).getD j Rc.nil = l.getD j Rc.nil
  rw [List.getD_eq_getElem?_getD, List.getD_eq_getElem?_getD, List.getElem?_take_of_lt h]
theorem sq_no1 {P : Int} {l : List Rc} {q : List Int} {a b : Nat} (hS : SqT l a b) (h : a ≠ b) : tlOk (P + (a : Int) + 1) (P + (b : Int)) ((sub l a b).drop 1) P l q = false := by
  have h1 := hS.le; have h2 := hS.lt
  refine pick_no (k := 0) (j := 0) (by omega) (by unfold idx; omega) ?_
  rw [ra_drop, sub_at (by omega)]
  exact hS.a1 h
theorem sq_no2 {P : Int} {l : List Rc} {q : List Int} {a b : Nat} (hS : SqT l a b) (h : a ≠ b) : tlOk (P + (a : Int)) (P + (b : Int) - 1) ((sub l a b).take (b - a)) P l q = false := by
  have h1 := hS.le; have h2 := hS.lt
  refine pick_no (k := l.length - 1) (j := b - a - 1) (by omega) (by unfold idx; omega) ?_
  rw [ra_take _ (by omega), sub_at (by omega), show a + (b - a - 1) = b - 1 by omega]
  exact hS.b1 h
/-- what is missed behind the first k years -/
theorem ms_split (P : Int) (q : List Int) {k m : Nat} (h : k ≤ m) : ∃ r, msK P q m = msK P q k ++ r := by
  induction m with
  | zero => exact ⟨[], by rw [Nat.le_zero.1 h]; rfl⟩
  | succ m ih =>
    by_cases e : k = m + 1
    · exact ⟨[], by rw [e, List.append_nil]⟩
    · obtain ⟨r, hr⟩ := ih (by omega)
      by_cases z : q.getD m 0 = 0
      · exact ⟨r, by show (if _ then _ else _ : List (Int × Int)) = _; rw [if_pos z, hr]⟩
      · exact ⟨r ++ [(P + (m : Int), q.getD m 0)], by show (if _ then _ else _ : List (Int × Int)) = _; rw [if_neg z, hr, List.append_assoc]⟩
theorem ms_next {P : Int} {q : List Int} {k m : Nat} (h : k < m) {r : List (Int × Int)} (hr : msK P q m = msK P q k ++ r) :
    (q.getD k 0 = 0 → msK P q m = msK P q (k + 1) ++ r) ∧ (q.getD k 0 ≠ 0 → ∃ r', r = (P + (k : Int), q.getD k 0) :: r' ∧ msK P q m = msK P q (k + 1) ++ r') := by
  refine ⟨fun z => ?_, fun z => ?_⟩
  · rw [hr]; show _ = (if _ then _ else _ : List (Int × Int)) ++ r; rw [if_pos z]
  · obtain ⟨r', hr'⟩ := ms_split P q (show k + 1 ≤ m by omega)
    refine ⟨r', ?_, hr'⟩
    have e : msK P q (k + 1) = msK P q k ++ [(P + (k : Int), q.getD k 0)] := by show (if _ then _ else _ : List (Int × Int)) = _; rw [if_neg z]
    rw [e, hr, List.append_assoc] at hr'
    exact List.append_cancel_left hr'
theorem ms_full {P : Int} {l : List Rc} {q : List Int} (h : plE P l q = 0) : msL P q = msK P q l.length := by
  obtain ⟨⟨k1, k2, k3, k4, k5⟩, _, _⟩ := pl_ok h
  unfold msL msN
  rw [k4, if_pos (by omega)]
end Go.Proofs.YtefcjccapekjdaaDoor.Sq
