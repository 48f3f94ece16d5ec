/-
  NearNone, plain: the order goes on; how many are within a distance; with one more.
-/
import Derived.Test.YtoiccljmdplfgaaTow
import Derived.Test.YtoiccljmdplfgaaNn2
namespace Go.Proofs.Ytoiccljmdplfgaa.Nr
open Go.Proofs.Ytoiccljmdplfgaa
open Go.Proofs.Ytoiccljmdplfgaa.Pl
open Go.Proofs.Ytoiccljmdplfgaa.So (ordF ordF_pm ordF_sd Pm Sd Lt)
open Go.Proofs.Ytoiccljmdplfgaa.Lk (nodup_le)
set_option linter.unusedVariables false
theorem ord_inj (far : Nat → Int) (n : Nat) : ∀ x y, ordF far n x = ordF far n y → x = y := (ordF_pm far n).inj (fun x y (h : id x = id y) => h)
/-- those that came ahead -/
def seenV (ord : Nat → Nat) (i j : Nat) : Bool := (List.range i).any fun q => ord q == j
theorem seen_0 (ord : Nat → Nat) (j : Nat) : seenV ord 0 j = false := rfl
theorem seen_no {ord : Nat → Nat} (hinj : ∀ x y, ord x = ord y → x = y) (i : Nat) : seenV ord i (ord i) = false := by
  unfold seenV
  rw [List.any_eq_false]
  intro q hq
  have := List.mem_range.1 hq
  simp only [beq_iff_eq]
  intro e
  have := hinj q i e
  omega
theorem seen_succ (ord : Nat → Nat) (i j : Nat) : seenV ord (i + 1) j = if j = ord i then true else seenV ord i j := by
  unfold seenV
  rw [List.range_succ, List.any_append]
  by_cases h : j = ord i
  · subst h; simp
  · rw [if_neg h]
    have : (ord i == j) = false := beq_eq_false_iff_ne.2 (fun e => h e.symm)
    simp [this]
/-- the distance of the one ahead -/
def lastV (far : Nat → Int) (ord : Nat → Nat) : Nat → Int
  | 0 => -1
  | i + 1 => far (ord i)
/-- how many of the first i are within d -/
def cntV (far : Nat → Int) (ord : Nat → Nat) (d : Int) : Nat → Nat
  | 0 => 0
  | i + 1 => if far (ord i) ≤ d then cntV far ord d i + 1 else cntV far ord d i
theorem cnt_le (far : Nat → Int) (ord : Nat → Nat) (d : Int) : ∀ i, cntV far ord d i ≤ i
  | 0 => Nat.le_refl _
  | i + 1 => by have := cnt_le far ord d i; unfold cntV; split <;> omega
/-- the order goes on -/
theorem last_le {far : Nat → Int} {n i : Nat} (hn : ∀ j, 0 ≤ far j) (hi : i < n) : lastV far (ordF far n) i ≤ far (ordF far n i) ∧ (far (ordF far n i) = lastV far (ordF far n) i → ∃ j, i = j + 1 ∧ ordF far n j < ordF far n i) := by
  cases i with
  | zero => exact ⟨by show -1 ≤ _; have := hn (ordF far n 0); omega, fun h => by have := hn (ordF far n 0); have h2 : far (ordF far n 0) = -1 := h; omega⟩
  | succ j =>
    have := ordF_sd far n j (j + 1) (Nat.zero_le _) (by omega) hi
    refine ⟨?_, fun h => ⟨j, rfl, ?_⟩⟩
    · show far (ordF far n j) ≤ _
      unfold Lt at this; omega
    · have h2 : far (ordF far n (j + 1)) = far (ordF far n j) := h
      unfold Lt at this; omega
/-- the ones of the order that are within d -/
def cl (far : Nat → Int) (ord : Nat → Nat) (d : Int) : Nat → List Nat
  | 0 => []
  | i + 1 => if far (ord i) ≤ d then ord i :: cl far ord d i else cl far ord d i
theorem cl_len (far : Nat → Int) (ord : Nat → Nat) (d : Int) : ∀ i, (cl far ord d i).length = cntV far ord d i
  | 0 => rfl
  | i + 1 => by
    have := cl_len far ord d i
    unfold cl cntV; split
    · rw [List.length_cons, this]
    · exact this
theorem cl_mem (far : Nat → Int) (ord : Nat → Nat) (d : Int) (v : Nat) : ∀ i, v ∈ cl far ord d i ↔ ∃ q, q < i ∧ ord q = v ∧ far v ≤ d
  | 0 => ⟨fun h => absurd h List.not_mem_nil, fun ⟨q, h, _⟩ => absurd h (Nat.not_lt_zero _)⟩
  | i + 1 => by
    have ih := cl_mem far ord d v i
    unfold cl
    split
    · rename_i h
      rw [List.mem_cons, ih]
      constructor
      · rintro (rfl | ⟨q, h1, h2⟩)
        · exact ⟨i, by omega, rfl, h⟩
        · exact ⟨q, by omega, h2⟩
      · rintro ⟨q, h1, rfl, h3⟩
        by_cases e : q = i
        · exact .inl (by rw [e])
        · exact .inr ⟨q, by omega, rfl, h3⟩
    · rename_i h
      rw [ih]
      constructor
      · rintro ⟨q, h1, h2⟩; exact ⟨q, by omega, h2⟩
      · rintro ⟨q, h1, rfl, h3⟩
        refine ⟨q, ?_, rfl, h3⟩
        by_cases e : q = i
        · subst e; exact absurd h3 h
        · omega
theorem cl_nodup {far : Nat → Int} {ord : Nat → Nat} {d : Int} (hinj : ∀ x y, ord x = ord y → x = y) : ∀ i, (cl far ord d i).Nodup
  | 0 => List.nodup_nil
  | i + 1 => by
    have ih := cl_nodup (far := far) (d := d) hinj i
    unfold cl
    split
    · refine List.nodup_cons.2 ⟨fun h => ?_, ih⟩
      obtain ⟨q, h1, h2, _⟩ := (cl_mem far ord d _ i).1 h
      have := hinj _ _ h2; omega
    · exact ih
theorem wi_nodup (L : List Pc) (p : P2) (d : Int) : ∀ k, (wiL L p d k).Nodup
  | 0 => List.nodup_nil
  | k + 1 => by
    have ih := wi_nodup L p d k
    unfold wiL
    split
    · refine List.nodup_append.2 ⟨ih, List.nodup_cons.2 ⟨List.not_mem_nil, List.nodup_nil⟩, fun a ha b hb e => ?_⟩
      have h1 := ((wi_mem L p d a k).1 ha).1
      have h2 := List.mem_singleton.1 hb
      omega
    · exact ih
theorem cnt_all (L : List Pc) (p : P2) (d : Int) (n : Nat) : cntV (far_ L p) (ordF (far_ L p) n) d n = (wiL L p d n).length := by
  rw [← cl_len]
  apply Nat.le_antisymm
  · refine nodup_le (cl_nodup (ord_inj _ n) n) (fun v hv => ?_)
    obtain ⟨q, h1, rfl, h3⟩ := (cl_mem _ _ d v n).1 hv
    exact (wi_mem L p d _ n).2 ⟨ord_lt _ h1, h3⟩
  · refine nodup_le (wi_nodup L p d n) (fun v hv => ?_)
    obtain ⟨h1, h2⟩ := (wi_mem L p d v n).1 hv
    obtain ⟨j, hj, e⟩ := onto (ordF_pm (far_ L p) n) v h1
    exact (cl_mem _ _ d v n).2 ⟨j, hj, e, h2⟩
theorem pc_left {L : List Pc} {m : Pc} {j : Nat} (h : j < L.length) : pc_ (L ++ [m]) j = pc_ L j := by
  show (L ++ [m]).getD j _ = L.getD j _
  rw [List.getD_eq_getElem?_getD, List.getD_eq_getElem?_getD, List.getElem?_append_left h]
theorem pc_last {L : List Pc} {m : Pc} : pc_ (L ++ [m]) L.length = m := by
  show (L ++ [m]).getD L.length _ = _
  rw [List.getD_eq_getElem?_getD, List.getElem?_append_right (Nat.le_refl _)]; simp
/-- with one more the first is it, or the same -/
theorem first_more {L : List Pc} {m : Pc} {p : P2} {n : Nat} (hl : L.length = n) (hn : 0 < n) :
    (distV m.p p < far_ L p (ordF (far_ L p) n 0) → ordF (far_ (L ++ [m]) p) (n + 1) 0 = n) ∧ (¬ distV m.p p < far_ L p (ordF (far_ L p) n 0) → ordF (far_ (L ++ [m]) p) (n + 1) 0 = ordF (far_ L p) n 0) := by
  have h1 := ord_lt (far_ (L ++ [m]) p) (show 0 < n + 1 by omega)
  have h2 := ord_first (far_ (L ++ [m]) p) (n := n + 1)
  have h3 := ord_lt (far_ L p) hn
  have h4 := ord_first (far_ L p) (n := n)
  generalize ordF (far_ (L ++ [m]) p) (n + 1) 0 = o2 at *
  generalize ordF (far_ L p) n 0 = o at *
  have fl : ∀ j, j < n → far_ (L ++ [m]) p j = far_ L p j := fun j hj => by unfold far_; rw [pc_left (by omega)]
  have fr : far_ (L ++ [m]) p n = distV m.p p := by unfold far_; rw [← hl, pc_last]
  have a1 := h2 n (by omega)
  have a2 := h2 o (by omega)
  have e2 := fl o h3
  have key : o2 < n → (o2 = o ∨ far_ L p o < far_ L p o2 ∨ (far_ L p o = far_ L p o2 ∧ o < o2)) ∧ far_ (L ++ [m]) p o2 = far_ L p o2 := fun h => ⟨by
    rcases h4 o2 h with e | e
    · exact .inl e
    · exact .inr e, fl o2 h⟩
  unfold Lt at a1 a2
  constructor
  · intro hD
    apply Classical.byContradiction
    intro hne
    obtain ⟨k1, k2⟩ := key (by omega)
    rcases k1 with e | e
    · rw [e] at a1 k2; omega
    · omega
  · intro hD
    apply Classical.byContradiction
    intro hne
    by_cases h : o2 = n
    · subst h; omega
    · obtain ⟨k1, k2⟩ := key (by omega)
      rcases k1 with e | e
      · exact hne e
      · omega
theorem pc_both {L : List Pc} {m : Pc} (h1 : pcE L = 0) (h2 : pcE [m] = 0) (h3 : (L ++ [m]).length ≤ 4096) : pcE (L ++ [m]) = 0 := by
  unfold pcE at *
  rw [List.length_append, List.length_singleton] at h3
  rw [if_neg (by omega)] at h1
  rw [if_neg (by show ¬ 4096 < 1; omega)] at h2
  rw [if_neg (by rw [List.length_append, List.length_singleton]; omega)]
  by_cases a : pcsB L = true
  · by_cases b : pcsB [m] = true
    · have : pcsB (L ++ [m]) = true := by
        unfold pcsB at *
        rw [List.all_append, a, b]; rfl
      rw [if_pos this]
    · rw [if_neg b] at h2; simp at h2
  · rw [if_neg a] at h1; simp at h1
end Go.Proofs.Ytoiccljmdplfgaa.Nr
