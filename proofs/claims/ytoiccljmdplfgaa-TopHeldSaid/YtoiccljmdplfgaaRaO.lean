/-
  A LIST OF AREAS THAT CAME IN, OPENED.
-/
import Derived.Test.YtoiccljmdplfgaaArO
import Derived.SizedLaws
namespace Go.Proofs.Ytoiccljmdplfgaa.Ar
open Go.ChangeShapes Go.WideShapes Go.ChangeAt Go.RowKit
open Go.Proofs.Ytoiccljmdplfgaa
open Go.Proofs.Ytoiccljmdplfgaa.Wd
open Go.Proofs.Ytoiccljmdplfgaa.Pl
set_option linter.unusedVariables false
set_option maxRecDepth 20000
theorem areas_of {H : Type} {enc : TypeId × Value → H} {w : World} {r : Reach} {b0 : Nat} {spare : Nat → Bool} {held : Bool} {v : Value} {x : DataW H} {pl : List MemPlace}
    (hv : Value.okWide Try.prog w r b0 35 v) (h : DataW.Trod enc Try.prog w 0 spare held 35 v x pl) (hz : ∀ n ∈ x.weights Try.prog 35, n ≤ reachBytes) :
    ∃ (A : Option Addr) (n c : Nat) (L : List Ae), v = .slice A n c ∧ Ars w w.heap.size A n L ∧ n * 40 ≤ 140737488351232 ∧ n ≤ c := by
  obtain ⟨A, n, c, rfl⟩ := okWide_slice Try.underlying35 hv
  obtain ⟨fuel, hf⟩ := h
  rcases Deep.open_slice Try.underlying35 hf with ⟨hcs, _⟩ | ⟨a, len, cap, m, k, D, Pl, hcs, _, hl, hm, hmm, hx0, hx⟩
  · simp [Value.cells] at hcs
    obtain ⟨rfl, rfl, rfl⟩ := hcs
    exact ⟨none, 0, 0, [], rfl, ⟨rfl, Reads.none_, fun a ha => absurd ha (List.not_mem_nil)⟩, by decide, Nat.le_refl _⟩
  · simp [Value.cells] at hcs
    obtain ⟨rfl, rfl, rfl⟩ := hcs
    have hlm : n ≤ m := by rw [hmm]; split <;> omega
    have hw := hz ((((List.range n).map D).length + ((List.range (m - n)).map fun j => D (n + j)).length) * Try.prog.bytesOf 34) (by
      rw [show x = _ from congrArg Prod.fst hx0]
      simp [DataW.weights, Try.underlying35])
    rw [show Try.prog.bytesOf 34 = 40 by kernel_rfl] at hw
    simp only [List.length_map, List.length_range] at hw
    have hw2 : n * 40 ≤ 140737488351232 := by
      have e : reachBytes = 140737488351232 := by decide
      rw [e] at hw; omega
    rw [show Try.prog.cellsOf 34 = 2 by kernel_rfl] at hx
    obtain ⟨f, hf⟩ := Deep.choose_lt (α := Ae) (n := n) (p := fun i r => (∀ j, j < 2 → w.cell? (a.add (i * 2 + j)) = r.C[j]?) ∧ (Pts w w.heap.size r.A r.n r.l ∧ r.z.size ≤ maxLen ∧ r.n ≤ maxLen)) (fun i hi => by
      obtain ⟨cs', h1, h2⟩ := hx i (by omega)
      obtain ⟨r, rfl, hp, _⟩ := area_cells h2
      obtain ⟨_, _, hc⟩ := World.cells?_some h1
      refine ⟨r, fun j hj => ?_, hp⟩
      have := hc j hj
      rw [Wd.add_of_add] at this
      rw [this, Array.getElem?_toList])
    have hlen : ((List.range n).map f).length = n := by simp
    have hat : ∀ i, i < n → ae_ ((List.range n).map f) i = f i := fun i hi => by
      show ((List.range n).map f).getD i _ = _
      rw [List.getD_eq_getElem?_getD, List.getElem?_eq_getElem (by rw [hlen]; exact hi)]; simp
    refine ⟨some a, n, c, (List.range n).map f, rfl, ⟨hlen, ⟨by rw [flatA_len, hlen], fun hp => ⟨a, rfl, ?_, fun j u hu => ?_⟩⟩, fun b hb => ?_⟩, hw2, by omega⟩
    · have := (hf 0 hp).1 0 (by decide)
      have h2 : w.cell? (a.add (0 * 2 + 0)) = some _ := this
      have := World.block_lt_of_cell? w _ h2
      rwa [Wd.block_of_add] at this
    · have hj : j < (flatA ((List.range n).map f)).length := by
        rcases Nat.lt_or_ge j (flatA ((List.range n).map f)).length with g | g
        · exact g
        · rw [List.getElem?_eq_none g] at hu; cases hu
      rw [flatA_len, hlen] at hj
      have e : j = (j / 2) * 2 + j % 2 := by omega
      have hk : j / 2 < n := by omega
      have hu' := hu
      rw [e, flatA_at _ _ _ (by rw [hlen]; exact hk) (by omega), hat _ hk] at hu'
      have := (hf _ hk).1 (j % 2) (by omega)
      rw [← e] at this
      rw [this, hu']
    · obtain ⟨i, hi, rfl⟩ := List.mem_map.1 hb
      exact (hf i (List.mem_range.1 hi)).2
end Go.Proofs.Ytoiccljmdplfgaa.Ar
