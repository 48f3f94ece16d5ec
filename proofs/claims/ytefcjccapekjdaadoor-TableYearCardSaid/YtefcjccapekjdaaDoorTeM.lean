/-
  TABLES: a year's spans tell what holds at each of its seconds; a table with its last record again.
-/
import Derived.Test.YtefcjccapekjdaaDoorTcS
import Derived.Test.YtefcjccapekjdaaDoorFtM
namespace Go.Proofs.YtefcjccapekjdaaDoor.Ft
open Go.ChangeShapes Go.WideShapes Go.ChangeAt Go.RowKit
open Go.Proofs.YtefcjccapekjdaaDoor
open Go.Proofs.YtefcjccapekjdaaDoor.Wd
open Go.Proofs.YtefcjccapekjdaaDoor.Rec
open Go.Proofs.YtefcjccapekjdaaDoor.Yr
open Go.Proofs.YtefcjccapekjdaaDoor.Clk (yrV yrE)
open Go.Proofs.YtefcjccapekjdaaDoor.Civ (Tab Inv)
set_option linter.unusedVariables false
open Go.Proofs.YtefcjccapekjdaaDoor.Tb
abbrev sg (r : Rc) (Y s : Int) : Int × Bool := (r.off Y s, r.sum Y s)
theorem sg_eq {r : Rc} {Y s t : Int} : eqT (r.off Y s) (r.sum Y s) (r.off Y t) (r.sum Y t) = true ↔ sg r Y s = sg r Y t := by
  unfold eqT; simp
theorem sum_const {ta tb s t : Int} (h1 : s ≤ t) (h2 : ¬ (s < min ta tb ∧ min ta tb ≤ t)) (h3 : ¬ (s < max ta tb ∧ max ta tb ≤ t)) : sumB ta tb s = sumB ta tb t := by
  unfold sumB
  split <;> (try split) <;> first | rfl | (rw [Bool.eq_iff_iff]; simp; omega)
theorem sg_const {r : Rc} {Y s t : Int} (h1 : s ≤ t) (h2 : ¬ (s < min (r.tr Y) (r.ts Y) ∧ min (r.tr Y) (r.ts Y) ≤ t)) (h3 : ¬ (s < max (r.tr Y) (r.ts Y) ∧ max (r.tr Y) (r.ts Y) ≤ t)) : sg r Y s = sg r Y t := by
  have e : r.sum Y s = r.sum Y t := sum_const h1 h2 h3
  unfold sg Rc.off
  rw [e]
theorem sp_form (r : Rc) (Y : Int) (hB : begY Y < begY (Y + 1)) :
    (spL r Y = [r.sp Y (begY Y)] ∧ ∀ s, begY Y ≤ s → s < begY (Y + 1) → sg r Y s = sg r Y (begY Y)) ∨
    (∃ x, spL r Y = [r.sp Y (begY Y), r.sp Y x] ∧ begY Y < x ∧ x < begY (Y + 1) ∧ sg r Y x ≠ sg r Y (begY Y) ∧ (∀ s, begY Y ≤ s → s < x → sg r Y s = sg r Y (begY Y)) ∧ (∀ s, x ≤ s → s < begY (Y + 1) → sg r Y s = sg r Y x)) ∨
    (∃ x y, spL r Y = [r.sp Y (begY Y), r.sp Y x, r.sp Y y] ∧ begY Y < x ∧ x < y ∧ y < begY (Y + 1) ∧ sg r Y x ≠ sg r Y (begY Y) ∧ sg r Y y ≠ sg r Y x ∧
      (∀ s, begY Y ≤ s → s < x → sg r Y s = sg r Y (begY Y)) ∧ (∀ s, x ≤ s → s < y → sg r Y s = sg r Y x) ∧ (∀ s, y ≤ s → s < begY (Y + 1) → sg r Y s = sg r Y y)) := by
  have hc := @sg_const r Y
  have hab : min (r.tr Y) (r.ts Y) ≤ max (r.tr Y) (r.ts Y) := by omega
  have hs0 : sp0 r Y = ([r.sp Y (begY Y)], r.off Y (begY Y), r.sum Y (begY Y)) := rfl
  have hs1 : sp1 r Y = spStep r Y (sp0 r Y) (min (r.tr Y) (r.ts Y)) := rfl
  have hs2 : sp2 r Y = spStep r Y (sp1 r Y) (max (r.tr Y) (r.ts Y)) := rfl
  have hL : spL r Y = (sp2 r Y).1 := rfl
  have st_skip : ∀ {s : List Sp × Int × Bool} {t : Int}, (t ≤ begY Y ∨ begY (Y + 1) ≤ t) → spStep r Y s t = s := fun h => Tb.step_skip h
  have st_same : ∀ {s : List Sp × Int × Bool} {t : Int}, ¬ (t ≤ begY Y ∨ begY (Y + 1) ≤ t) → eqT (r.off Y t) (r.sum Y t) s.2.1 s.2.2 = true → spStep r Y s t = s := fun h h2 => Tb.step_same h h2
  have st_new : ∀ {s : List Sp × Int × Bool} {t : Int}, ¬ (t ≤ begY Y ∨ begY (Y + 1) ≤ t) → eqT (r.off Y t) (r.sum Y t) s.2.1 s.2.2 = false → spStep r Y s t = (s.1 ++ [r.sp Y t], r.off Y t, r.sum Y t) := fun h h2 => Tb.step_new h h2
  rw [hL, hs2]
  rw [hs0] at hs1
  generalize min (r.tr Y) (r.ts Y) = a at *
  generalize max (r.tr Y) (r.ts Y) = b at *
  generalize begY Y = F at *
  generalize begY (Y + 1) = G at *
  by_cases ha : a ≤ F ∨ G ≤ a
  · rw [st_skip ha] at hs1
    rw [hs1]
    by_cases hb : b ≤ F ∨ G ≤ b
    · rw [st_skip hb]
      exact .inl ⟨rfl, fun s h1 h2 => (hc h1 (by omega) (by omega)).symm⟩
    · cases he : eqT (r.off Y b) (r.sum Y b) (r.off Y F) (r.sum Y F) with
      | true =>
        rw [st_same hb he]
        have eq := sg_eq.1 he
        refine .inl ⟨rfl, fun s h1 h2 => ?_⟩
        by_cases q : s < b
        · exact (hc h1 (by omega) (by omega)).symm
        · exact ((hc (s := b) (t := s) (by omega) (by omega) (by omega)).symm).trans eq
      | false =>
        rw [st_new hb he]
        have ne : sg r Y b ≠ sg r Y F := fun e => by rw [sg_eq.2 e] at he; cases he
        exact .inr (.inl ⟨b, rfl, by omega, by omega, ne, fun s h1 h2 => (hc h1 (by omega) (by omega)).symm, fun s h1 h2 => (hc h1 (by omega) (by omega)).symm⟩)
  · cases he : eqT (r.off Y a) (r.sum Y a) (r.off Y F) (r.sum Y F) with
    | true =>
      have eq := sg_eq.1 he
      have hs1' := hs1
      rw [st_same ha he] at hs1'
      rw [hs1']
      by_cases hb : b ≤ a ∨ G ≤ b
      · have hsk : spStep r Y ([r.sp Y F], r.off Y F, r.sum Y F) b = ([r.sp Y F], r.off Y F, r.sum Y F) := by
          by_cases q : b ≤ F ∨ G ≤ b
          · exact st_skip q
          · have : b = a := by omega
            subst this
            exact st_same q he
        rw [hsk]
        refine .inl ⟨rfl, fun s h1 h2 => ?_⟩
        by_cases q : s < a
        · exact (hc h1 (by omega) (by omega)).symm
        · exact ((hc (s := a) (t := s) (by omega) (by omega) (by omega)).symm).trans eq
      · have hb' : ¬ (b ≤ F ∨ G ≤ b) := by omega
        have low : ∀ s, F ≤ s → s < b → sg r Y s = sg r Y F := fun s h1 h2 => by
          by_cases q : s < a
          · exact (hc h1 (by omega) (by omega)).symm
          · exact ((hc (s := a) (t := s) (by omega) (by omega) (by omega)).symm).trans eq
        have high : ∀ s, b ≤ s → s < G → sg r Y s = sg r Y b := fun s h1 h2 => (hc h1 (by omega) (by omega)).symm
        cases hf : eqT (r.off Y b) (r.sum Y b) (r.off Y F) (r.sum Y F) with
        | true =>
          rw [st_same hb' hf]
          have eq2 := sg_eq.1 hf
          refine .inl ⟨rfl, fun s h1 h2 => ?_⟩
          by_cases q : s < b
          · exact low s h1 q
          · exact (high s (by omega) h2).trans eq2
        | false =>
          rw [st_new hb' hf]
          have ne : sg r Y b ≠ sg r Y F := fun e => by rw [sg_eq.2 e] at hf; cases hf
          exact .inr (.inl ⟨b, rfl, by omega, by omega, ne, low, high⟩)
    | false =>
      have ne : sg r Y a ≠ sg r Y F := fun e => by rw [sg_eq.2 e] at he; cases he
      have hs1' := hs1
      rw [st_new ha he] at hs1'
      rw [hs1']
      have low : ∀ s, F ≤ s → s < a → sg r Y s = sg r Y F := fun s h1 h2 => (hc h1 (by omega) (by omega)).symm
      by_cases hb : b ≤ a ∨ G ≤ b
      · have hsk : spStep r Y ([r.sp Y F] ++ [r.sp Y a], r.off Y a, r.sum Y a) b = ([r.sp Y F] ++ [r.sp Y a], r.off Y a, r.sum Y a) := by
          by_cases q : b ≤ F ∨ G ≤ b
          · exact st_skip q
          · have : b = a := by omega
            subst this
            exact st_same q (sg_eq.2 rfl)
        rw [hsk]
        exact .inr (.inl ⟨a, rfl, by omega, by omega, ne, low, fun s h1 h2 => (hc h1 (by omega) (by omega)).symm⟩)
      · have hb' : ¬ (b ≤ F ∨ G ≤ b) := by omega
        have mid : ∀ s, a ≤ s → s < b → sg r Y s = sg r Y a := fun s h1 h2 => (hc h1 (by omega) (by omega)).symm
        have high : ∀ s, b ≤ s → s < G → sg r Y s = sg r Y b := fun s h1 h2 => (hc h1 (by omega) (by omega)).symm
        cases hf : eqT (r.off Y b) (r.sum Y b) (r.off Y a) (r.sum Y a) with
        | true =>
          rw [st_same hb' hf]
          have eq2 := sg_eq.1 hf
          refine .inr (.inl ⟨a, rfl, by omega, by omega, ne, low, fun s h1 h2 => ?_⟩)
          by_cases q : s < b
          · exact mid s h1 q
          · exact (high s (by omega) h2).trans eq2
        | false =>
          rw [st_new hb' hf]
          have ne2 : sg r Y b ≠ sg r Y a := fun e => by rw [sg_eq.2 e] at hf; cases hf
          exact .inr (.inr ⟨a, b, rfl, by omega, by omega, by omega, ne, ne2, low, mid, high⟩)
theorem alk_ne {r : Rc} {Y s t : Int} (h : sg r Y s ≠ sg r Y t) : alk (r.sp Y s) (r.sp Y t) = false := by
  cases hq : alk (r.sp Y s) (r.sp Y t) with
  | false => rfl
  | true => exact absurd (sg_eq.1 (show eqT (r.off Y s) (r.sum Y s) (r.off Y t) (r.sum Y t) = true from hq)) h
theorem adj_of {r : Rc} {Y s t : Int} (h1 : s < t) (h : sg r Y t ≠ sg r Y s) : adj (r.sp Y s) (r.sp Y t) = true := by
  unfold adj; rw [alk_ne h, Bool.and_eq_true, decide_eq_true_iff]; exact ⟨h1, rfl⟩
/-- a year's spans are right; the one that holds at a second tells its state -/
theorem sp_tells (r : Rc) (Y : Int) (hB : begY Y < begY (Y + 1)) : lkB (spL r Y) = true ∧ (at_ (spL r Y) 0).f = begY Y ∧
    ∀ s k, begY Y ≤ s → s < begY (Y + 1) → k < (spL r Y).length → (∀ j, j ≤ k → (at_ (spL r Y) j).f ≤ s) → (∀ j, k < j → j < (spL r Y).length → s < (at_ (spL r Y) j).f) →
      (at_ (spL r Y) k).o = r.off Y s ∧ (at_ (spL r Y) k).d = r.sum Y s := by
  have out : ∀ {s t : Int}, sg r Y s = sg r Y t → (r.sp Y t).o = r.off Y s ∧ (r.sp Y t).d = r.sum Y s := fun e => ⟨(congrArg Prod.fst e).symm, (congrArg Prod.snd e).symm⟩
  rcases sp_form r Y hB with ⟨hL, h1⟩ | ⟨x, hL, x1, x2, n1, l1, l2⟩ | ⟨x, y, hL, x1, x2, x3, n1, n2, l1, l2, l3⟩
  · rw [hL]
    refine ⟨lk_iff.2 ⟨by simp, fun i hi => by simp at hi⟩, rfl, fun s k a b hk h2 h3 => ?_⟩
    have hk' : k < 1 := hk
    obtain rfl : k = 0 := by omega
    exact out (h1 s a b)
  · rw [hL]
    refine ⟨lk_iff.2 ⟨by simp, fun i hi => ?_⟩, rfl, fun s k a b hk h2 h3 => ?_⟩
    · have hi' : i + 1 < 2 := hi
      obtain rfl : i = 0 := by omega
      exact adj_of x1 n1
    · have hk' : k < 2 := hk
      have hk2 : k = 0 ∨ k = 1 := by omega
      rcases hk2 with rfl | rfl
      · have := h3 1 (by omega) (by simp)
        exact out (l1 s a this)
      · have := h2 1 (Nat.le_refl _)
        exact out (l2 s this b)
  · rw [hL]
    refine ⟨lk_iff.2 ⟨by simp, fun i hi => ?_⟩, rfl, fun s k a b hk h2 h3 => ?_⟩
    · have hi' : i + 1 < 3 := hi
      have hi2 : i = 0 ∨ i = 1 := by omega
      rcases hi2 with rfl | rfl
      · exact adj_of x1 n1
      · exact adj_of x2 n2
    · have hk' : k < 3 := hk
      have hk2 : k = 0 ∨ k = 1 ∨ k = 2 := by omega
      rcases hk2 with rfl | rfl | rfl
      · have := h3 1 (by omega) (by simp)
        exact out (l1 s a this)
      · have a1 := h2 1 (Nat.le_refl _)
        have a2 := h3 2 (by omega) (by simp)
        exact out (l2 s a1 a2)
      · have := h2 2 (Nat.le_refl _)
        exact out (l3 s this b)
end Go.Proofs.YtefcjccapekjdaaDoor.Ft
