/-
  A LIST OF SPANS THAT CAME IN, OPENED: it reads as a list of spans.
-/
import Derived.Test.YtginidedeefcdaaDoorFtL
import Derived.ProofKit
import Derived.ChangeArms
import Derived.OpenShut
import Derived.Deep.Slices
namespace Go.Proofs.YtginidedeefcdaaDoor.Ft
open Go.ChangeShapes Go.WideShapes Go.ChangeAt Go.RowKit
open Go.Proofs.YtginidedeefcdaaDoor
open Go.Proofs.YtginidedeefcdaaDoor.Wd
open Go.Proofs.YtginidedeefcdaaDoor.Tb
set_option linter.unusedVariables false
set_option linter.unusedSimpArgs false
set_option maxRecDepth 20000
theorem three_sp {cs : List Value} (h : cs.length = 3) : ∃ a b c, cs = [a, b, c] := by
  match cs, h with
  | [a, b, c], _ => exact ⟨a, b, c, rfl⟩
theorem span_cells {H : Type} {enc : TypeId × Value → H} {w : World} {base : Nat} {spare : Nat → Bool} {held : Bool} {fuel : Nat} {cs : List Value} {x : DataW H × List MemPlace}
    (hf : DataW.trod enc Tryd.prog w base spare held fuel 40 cs = some x) : ∃ s : Sp, cs = s.A.toList := by
  obtain ⟨xs, k, hk, hx, hcl, hxl, hf⟩ := DataW.trod_struct Tryd.underlying40 hf
  rw [show Tryd.prog.cellsOf 40 = 3 by kernel_rfl] at hcl
  obtain ⟨a, b, c, hcs⟩ := three_sp hcl
  rw [hcs] at hf
  have hl3 : xs.length = 3 := hxl
  match xs, hl3 with
  | [y0, y1, y2], _ =>
    have k1 : Tryd.prog.cellsOf 2 = 1 := by kernel_rfl
    have k2 : Tryd.prog.cellsOf 4 = 1 := by kernel_rfl
    have g0 := hf 0 _ rfl
    have g1 := hf 1 _ rfl
    have g2 := hf 2 _ rfl
    simp [k1, k2] at g0 g1 g2
    obtain ⟨a0, e0, _, w0⟩ := DataW.trod_int Tryd.underlying2 g0
    obtain ⟨a1, e1, _, w1⟩ := DataW.trod_int Tryd.underlying2 g1
    obtain ⟨a2, e2, _⟩ := DataW.trod_bool Tryd.underlying4 g2
    simp at e0 e1 e2
    subst e0 e1 e2
    exact ⟨⟨a0, a1, a2⟩, hcs⟩
instance : Inhabited Sp := ⟨⟨0, 0, false⟩⟩
theorem spans_of {H : Type} {enc : TypeId × Value → H} {w : World} {r : Reach} {b0 : Nat} {spare : Nat → Bool} {held : Bool} {v : Value} {x : DataW H} {pl : List MemPlace}
    (hv : Value.okWide Tryd.prog w r b0 22 v) (h : DataW.Trod enc Tryd.prog w 0 spare held 22 v x pl) :
    ∃ (A : Option Addr) (n c : Nat) (l : List Sp), v = .slice A n c ∧ Spans w w.heap.size A n l ∧ n ≤ maxLen ∧ n ≤ c := by
  obtain ⟨A, n, c, rfl⟩ := okWide_slice Tryd.underlying22 hv
  obtain ⟨fuel, hf⟩ := h
  rcases Deep.open_slice Tryd.underlying22 hf with ⟨hcs, _⟩ | ⟨a, len, cap, m, n', D, Pl, hcs, _, hl, hm, hmm, _, hx⟩
  · simp [Value.cells] at hcs
    obtain ⟨rfl, rfl, rfl⟩ := hcs
    exact ⟨none, 0, 0, [], rfl, ⟨rfl, Reads.none_⟩, Nat.zero_le _, Nat.zero_le _⟩
  · simp [Value.cells] at hcs
    obtain ⟨rfl, rfl, rfl⟩ := hcs
    have hlm : n ≤ m := by rw [hmm]; split <;> omega
    rw [show Tryd.prog.cellsOf 40 = 3 by kernel_rfl] at hx
    obtain ⟨f, hf⟩ := Deep.choose_lt (α := Sp) (n := n) (p := fun i s => ∀ j, j < 3 → w.cell? (a.add (i * 3 + j)) = s.A[j]?) (fun i hi => by
      obtain ⟨cs', h1, h2⟩ := hx i (by omega)
      obtain ⟨s, rfl⟩ := span_cells h2
      obtain ⟨_, _, hc⟩ := World.cells?_some h1
      refine ⟨s, fun j hj => ?_⟩
      have := hc j hj
      rw [Wd.add_of_add] at this
      rw [this, Array.getElem?_toList])
    have hlen : ((List.range n).map f).length = n := by simp
    refine ⟨some a, n, c, (List.range n).map f, rfl, ⟨hlen, ⟨by rw [flatS_len, hlen], fun hp => ⟨a, rfl, ?_, fun j u hu => ?_⟩⟩⟩, by omega, hl⟩
    · have h2 : w.cell? (a.add (0 * 3 + 0)) = some _ := hf 0 hp 0 (by decide)
      have := World.block_lt_of_cell? w _ h2
      rwa [Wd.block_of_add] at this
    · have hj : j < (flatS ((List.range n).map f)).length := (List.getElem?_eq_some_iff.1 hu).1
      rw [flatS_len, hlen] at hj
      have e : j = 3 * (j / 3) + j % 3 := by omega
      have hk : j / 3 < n := by omega
      have hu' := hu
      rw [e, flatS_at _ _ _ (by rw [hlen]; exact hk) (by omega)] at hu'
      have hg : ((List.range n).map f)[j / 3]'(by rw [hlen]; exact hk) = f (j / 3) := by simp
      rw [hg] at hu'
      have := hf _ hk (j % 3) (by omega)
      rw [show j / 3 * 3 + j % 3 = j by omega] at this
      rw [this, hu']
end Go.Proofs.YtginidedeefcdaaDoor.Ft
