/-
  AREAS THAT CAME IN, OPENED: a name and its corners; and a list of areas.
-/
import Derived.Test.YtoiccljmdplfgaaAr7
import Derived.Deep.Slices
import Derived.OpenShut
namespace Go.Proofs.Ytoiccljmdplfgaa.Ar
open Go.ChangeShapes Go.WideShapes Go.ChangeAt Go.RowKit
open Go.Proofs.Ytoiccljmdplfgaa
open Go.Proofs.Ytoiccljmdplfgaa.Wd
open Go.Proofs.Ytoiccljmdplfgaa.Pl
set_option linter.unusedVariables false
set_option maxRecDepth 20000
instance : Inhabited P2 := ⟨⟨0, 0⟩⟩
instance : Inhabited Ae := ⟨Ae.nil⟩
theorem two_cs {cs : List Value} (h : cs.length = 2) : ∃ a b, cs = [a, b] := by
  match cs, h with
  | [a, b], _ => exact ⟨a, b, rfl⟩
theorem point_cells {H : Type} {enc : TypeId × Value → H} {w : World} {base : Nat} {spare : Nat → Bool} {held : Bool} {fuel : Nat} {cs : List Value} {x : DataW H × List MemPlace}
    (hf : DataW.trod enc Try.prog w base spare held fuel 23 cs = some x) : ∃ r : P2, cs = r.A.toList := by
  obtain ⟨xs, k, hk, hx, hcl, hxl, hf⟩ := DataW.trod_struct Try.underlying23 hf
  rw [show Try.prog.cellsOf 23 = 2 by kernel_rfl] at hcl
  obtain ⟨a, b, hcs⟩ := two_cs hcl
  rw [hcs] at hf
  have hl2 : xs.length = 2 := hxl
  match xs, hl2 with
  | [y0, y1], _ =>
    have k1 : Try.prog.cellsOf 3 = 1 := by kernel_rfl
    have g0 := hf 0 _ rfl
    have g1 := hf 1 _ rfl
    simp [k1] at g0 g1
    obtain ⟨a0, e0, _, w0⟩ := DataW.trod_int Try.underlying3 g0
    obtain ⟨a1, e1, _, w1⟩ := DataW.trod_int Try.underlying3 g1
    simp at e0 e1
    subst e0 e1
    exact ⟨⟨a0, a1⟩, hcs⟩
theorem points_cells {H : Type} {enc : TypeId × Value → H} {w : World} {spare : Nat → Bool} {held : Bool} {fuel : Nat} {cs : List Value} {x : DataW H × List MemPlace}
    (h : DataW.trod enc Try.prog w 0 spare held fuel 32 cs = some x) :
    ∃ (A : Option Addr) (n c : Nat) (l : List P2), cs = [.slice A n c] ∧ Pts w w.heap.size A n l ∧ n ≤ maxLen ∧ n ≤ c := by
  rcases Deep.open_slice Try.underlying32 h with ⟨rfl, _⟩ | ⟨a, len, cap, m, n, D, Pl, rfl, _, hl, hm, hmm, _, hx⟩
  · exact ⟨none, 0, 0, [], rfl, ⟨rfl, Reads.none_⟩, Nat.zero_le _, Nat.le_refl _⟩
  · have hlm : len ≤ m := by rw [hmm]; split <;> omega
    rw [show Try.prog.cellsOf 23 = 2 by kernel_rfl] at hx
    obtain ⟨f, hf⟩ := Deep.choose_lt (α := P2) (n := len) (p := fun i r => ∀ j, j < 2 → w.cell? (a.add (i * 2 + j)) = r.A[j]?) (fun i hi => by
      obtain ⟨cs', h1, h2⟩ := hx i (by omega)
      obtain ⟨r, rfl⟩ := point_cells h2
      obtain ⟨_, _, hc⟩ := World.cells?_some h1
      refine ⟨r, fun j hj => ?_⟩
      have := hc j hj
      rw [Wd.add_of_add] at this
      rw [this, Array.getElem?_toList])
    have hlen : ((List.range len).map f).length = len := by simp
    refine ⟨some a, len, cap, (List.range len).map f, rfl, ⟨hlen, ⟨by rw [flatP_len, hlen], fun hp => ⟨a, rfl, ?_, fun j u hu => ?_⟩⟩⟩, by omega, by omega⟩
    · have := (hf 0 hp) 0 (by decide)
      have h2 : w.cell? (a.add (0 * 2 + 0)) = some _ := this
      have := World.block_lt_of_cell? w _ h2
      rwa [Wd.block_of_add] at this
    · have hj : j < (flatP ((List.range len).map f)).length := by
        rcases Nat.lt_or_ge j (flatP ((List.range len).map f)).length with g | g
        · exact g
        · rw [List.getElem?_eq_none g] at hu; cases hu
      rw [flatP_len, hlen] at hj
      have e : j = 2 * (j / 2) + j % 2 := by omega
      have hk : j / 2 < len := by omega
      have hu' := hu
      rw [e, flatP_at _ _ _ (by rw [hlen]; exact hk) (by omega)] at hu'
      have hg : ((List.range len).map f)[j / 2]'(by rw [hlen]; exact hk) = f (j / 2) := by simp
      rw [hg] at hu'
      have := (hf _ hk) (j % 2) (by omega)
      rw [show j / 2 * 2 + j % 2 = j by omega] at this
      rw [this, hu']
theorem area_cells {H : Type} {enc : TypeId × Value → H} {w : World} {spare : Nat → Bool} {held : Bool} {fuel : Nat} {cs : List Value} {x : DataW H × List MemPlace}
    (hf : DataW.trod enc Try.prog w 0 spare held fuel 34 cs = some x) : ∃ r : Ae, cs = r.C.toList ∧ (Pts w w.heap.size r.A r.n r.l ∧ r.z.size ≤ maxLen ∧ r.n ≤ maxLen) ∧ r.n ≤ r.c := by
  obtain ⟨xs, k, hk, hx, hcl, hxl, hf⟩ := DataW.trod_struct Try.underlying34 hf
  rw [show Try.prog.cellsOf 34 = 2 by kernel_rfl] at hcl
  obtain ⟨a, b, hcs⟩ := two_cs hcl
  rw [hcs] at hf
  have hl2 : xs.length = 2 := hxl
  match xs, hl2 with
  | [y0, y1], _ =>
    have k1 : Try.prog.cellsOf 9 = 1 := by kernel_rfl
    have k2 : Try.prog.cellsOf 32 = 1 := by kernel_rfl
    have g0 := hf 0 _ rfl
    have g1 := hf 1 _ rfl
    simp [k1, k2] at g0 g1
    obtain ⟨s, e0, _, w0⟩ := DataW.trod_string Try.underlying9 g0
    obtain ⟨A, n, c, l, e1, hR, hm, hnc⟩ := points_cells g1
    simp at e0 e1
    subst e0 e1
    exact ⟨⟨s, A, n, c, l⟩, hcs, ⟨hR, w0, hm⟩, hnc⟩
theorem area_of {H : Type} {enc : TypeId × Value → H} {w : World} {r : Reach} {b0 : Nat} {spare : Nat → Bool} {held : Bool} {v : Value} {x : DataW H} {pl : List MemPlace}
    (hv : Value.okWide Try.prog w r b0 34 v) (h : DataW.Trod enc Try.prog w 0 spare held 34 v x pl) :
    ∃ (z : ByteArray) (A : Option Addr) (n c : Nat) (l : List P2), v = arV z A n c ∧ z.size ≤ maxLen ∧ Pts w w.heap.size A n l ∧ n ≤ maxLen ∧ n ≤ c := by
  obtain ⟨cs, rfl, hsz⟩ := okWide_struct Try.underlying34 hv
  obtain ⟨fuel, hf⟩ := h
  obtain ⟨⟨z, A, n, c, l⟩, hcs, ⟨hR, hz, hm⟩, hnc⟩ := area_cells hf
  refine ⟨z, A, n, c, l, ?_, hz, hR, hm, hnc⟩
  simp [Value.cells] at hcs
  show Value.agg cs = Value.agg _
  congr 1
  apply Array.toList_inj.1; simpa using hcs
theorem point_of {H : Type} {enc : TypeId × Value → H} {w : World} {r : Reach} {b0 : Nat} {spare : Nat → Bool} {held : Bool} {v : Value} {x : DataW H} {pl : List MemPlace}
    (hv : Value.okWide Try.prog w r b0 23 v) (h : DataW.Trod enc Try.prog w 0 spare held 23 v x pl) : ∃ p : P2, v = p.V := by
  obtain ⟨cs, rfl, hsz⟩ := okWide_struct Try.underlying23 hv
  obtain ⟨fuel, hf⟩ := h
  obtain ⟨p, hcs⟩ := point_cells hf
  refine ⟨p, ?_⟩
  simp [Value.cells] at hcs
  show Value.agg cs = Value.agg _
  congr 1
  apply Array.toList_inj.1; simpa using hcs
end Go.Proofs.Ytoiccljmdplfgaa.Ar
