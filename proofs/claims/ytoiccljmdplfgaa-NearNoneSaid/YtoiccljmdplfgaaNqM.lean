/-
  NEAREST PLACES, plain: the first of the order; those within a distance.
-/
import Derived.Test.YtoiccljmdplfgaaNq3
namespace Go.Proofs.Ytoiccljmdplfgaa.Nr
open Go.Proofs.Ytoiccljmdplfgaa
open Go.Proofs.Ytoiccljmdplfgaa.Pl
open Go.Proofs.Ytoiccljmdplfgaa.So (ordF ordF_pm ordF_sd Pm Sd Lt)
set_option linter.unusedVariables false
theorem dist_self (a : P2) : distV a a = 0 := by
  unfold distV lon gap
  split
  · rw [Int.sub_self, Int.sub_self]; decide
  · rfl
theorem wi_mem (L : List Pc) (p : P2) (d : Int) (j : Nat) : ∀ k, j ∈ wiL L p d k ↔ j < k ∧ far_ L p j ≤ d
  | 0 => ⟨fun h => absurd h List.not_mem_nil, fun h => absurd h.1 (Nat.not_lt_zero _)⟩
  | k + 1 => by
    have ih := wi_mem L p d j k
    unfold wiL
    split
    · rename_i h
      rw [List.mem_append, ih, List.mem_singleton]
      constructor
      · rintro (⟨h1, h2⟩ | rfl)
        · exact ⟨by omega, h2⟩
        · exact ⟨by omega, h⟩
      · rintro ⟨h1, h2⟩
        by_cases e : j = k
        · exact .inr e
        · exact .inl ⟨by omega, h2⟩
    · rename_i h
      rw [ih]
      constructor
      · rintro ⟨h1, h2⟩; exact ⟨by omega, h2⟩
      · rintro ⟨h1, h2⟩
        refine ⟨?_, h2⟩
        by_cases e : j = k
        · subst e; exact absurd h2 h
        · omega
theorem wi_first {L : List Pc} {p : P2} {d : Int} {m : Nat} (h1 : far_ L p m ≤ d) (h2 : ∀ j, j < m → ¬ far_ L p j ≤ d) : ∀ k, m < k → ∃ t, wiL L p d k = m :: t
  | 0, h => absurd h (Nat.not_lt_zero _)
  | k + 1, h => by
    by_cases e : m = k
    · subst e
      have h0 : ∀ q, q ≤ m → wiL L p d q = [] := by
        intro q
        induction q with
        | zero => intro _; rfl
        | succ q ih => intro hq; unfold wiL; rw [if_neg (h2 q (by omega))]; exact ih (by omega)
      unfold wiL
      rw [if_pos h1, h0 m (Nat.le_refl _)]
      exact ⟨[], rfl⟩
    · obtain ⟨t, ht⟩ := wi_first h1 h2 k (by omega)
      unfold wiL
      split
      · exact ⟨t ++ [k], by rw [ht]; rfl⟩
      · exact ⟨t, ht⟩
/-- an order has each place -/
theorem onto {n : Nat} {c : Nat → Nat} (h : Pm 0 n id c) : ∀ v, v < n → ∃ j, j < n ∧ c j = v := by
  obtain ⟨s, k1, k2, k3, k4⟩ := h
  intro v hv
  have aux : ∀ (p q : List Nat), p.Nodup → (∀ x ∈ p, x ∈ q) → p.length ≤ q.length := by
    intro p
    induction p with
    | nil => intro q _ _; exact Nat.zero_le _
    | cons x p ih =>
      intro q hd hs
      have hxq := hs x (List.mem_cons_self ..)
      have hn := List.nodup_cons.1 hd
      have := ih (q.erase x) hn.2 (fun y hy => (List.mem_erase_of_ne (fun e : y = x => hn.1 (by rw [← e]; exact hy))).2 (hs y (List.mem_cons_of_mem _ hy)))
      rw [List.length_erase_of_mem hxq] at this
      have hp : 0 < q.length := List.length_pos_of_mem hxq
      simp only [List.length_cons]; omega
  have hmem : v ∈ (List.range n).map s := by
    apply Classical.byContradiction
    intro hn
    have hd : ((List.range n).map s).Nodup := List.pairwise_map.2 ((List.nodup_range (n := n)).imp (fun {x y} h e => h (k1 x y e)))
    have h3 := aux (v :: (List.range n).map s) (List.range n) (List.nodup_cons.2 ⟨hn, hd⟩) (fun x hx => by
      rcases List.mem_cons.1 hx with rfl | hx
      · exact List.mem_range.2 hv
      · obtain ⟨y, hy, rfl⟩ := List.mem_map.1 hx
        exact List.mem_range.2 (k3 y (Nat.zero_le _) (List.mem_range.1 hy)).2)
    rw [List.length_cons, List.length_map, List.length_range] at h3; omega
  obtain ⟨j, hj, e⟩ := List.mem_map.1 hmem
  exact ⟨j, List.mem_range.1 hj, by rw [k4]; exact e⟩
theorem ord_lt (far : Nat → Int) {n j : Nat} (h : j < n) : ordF far n j < n := by
  obtain ⟨k, _, k2, k3⟩ := (ordF_pm far n).from_ (Nat.zero_le j) h
  rw [k3]; exact k2
theorem ord_first (far : Nat → Int) {n : Nat} : ∀ j, j < n → j = ordF far n 0 ∨ Lt far (ordF far n 0) j := by
  intro j hj
  obtain ⟨i, hi, e⟩ := onto (ordF_pm far n) j hj
  by_cases h : i = 0
  · subst h; exact .inl e.symm
  · right; rw [← e]; exact ordF_sd far n 0 i (Nat.zero_le _) (by omega) hi
theorem far_self (L : List Pc) (i : Nat) : far_ L (pc_ L i).p i = 0 := dist_self _
theorem far_nonneg (L : List Pc) (p : P2) (i : Nat) : 0 ≤ far_ L p i := dist_nonneg _ _
/-- the first one of the order, seen from a place's own point -/
theorem own_first (L : List Pc) {n i : Nat} (hi : i < n) : far_ L (pc_ L i).p (ordF (far_ L (pc_ L i).p) n 0) = 0 ∧ ordF (far_ L (pc_ L i).p) n 0 ≤ i ∧ ∃ t, wiL L (pc_ L i).p 0 n = ordF (far_ L (pc_ L i).p) n 0 :: t := by
  have h0 := ord_lt (far_ L (pc_ L i).p) (show 0 < n by omega)
  have hf := ord_first (far_ L (pc_ L i).p) (n := n)
  generalize ordF (far_ L (pc_ L i).p) n 0 = o at *
  have hs := far_self L i
  have hz : far_ L (pc_ L i).p o = 0 := by
    have hn := far_nonneg L (pc_ L i).p o
    rcases hf i hi with e | e
    · rw [← e]; exact hs
    · unfold Lt at e; omega
  have hlast : ∀ j, j < n → far_ L (pc_ L i).p j ≤ 0 → o ≤ j := fun j hj hjz => by
    have hn := far_nonneg L (pc_ L i).p j
    rcases hf j hj with e | e
    · omega
    · unfold Lt at e; omega
  exact ⟨hz, hlast i hi (by omega), wi_first (by omega) (fun j hj h => by have := hlast j (by omega) h; omega) n h0⟩
end Go.Proofs.Ytoiccljmdplfgaa.Nr
