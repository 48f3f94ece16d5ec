/-
  A PLAN THAT CAME IN, OPENED: its first year, its records and its reasons.
-/
import Derived.Test.YtefcjccapekjdaaDoorTbO
import Derived.Test.YtefcjccapekjdaaDoorSqC
namespace Go.Proofs.YtefcjccapekjdaaDoor.Sq
open Go.ChangeShapes Go.WideShapes Go.ChangeAt Go.RowKit
open Go.Proofs.YtefcjccapekjdaaDoor
open Go.Proofs.YtefcjccapekjdaaDoor.Wd
open Go.Proofs.YtefcjccapekjdaaDoor.Rec
open Go.Proofs.YtefcjccapekjdaaDoor.Tb
set_option linter.unusedVariables false
set_option maxRecDepth 20000
theorem recs_cells2 {H : Type} {enc : TypeId × Value → H} {w : World} {spare : Nat → Bool} {held : Bool} {fuel : Nat} {cs : List Value} {x : DataW H × List MemPlace}
    (h : DataW.trod enc Tryd.prog w 0 spare held fuel 38 cs = some x) :
    ∃ (A : Option Addr) (n c : Nat) (l : List Rc), cs = [.slice A n c] ∧ Recs w w.heap.size A n l ∧ n ≤ maxLen ∧ n ≤ c := by
  rcases Deep.open_slice Tryd.underlying38 h with ⟨rfl, _⟩ | ⟨a, len, cap, m, n, D, Pl, rfl, _, hl, hm, hmm, _, hx⟩
  · exact ⟨none, 0, 0, [], rfl, ⟨rfl, Reads.none_, fun r hr => by cases hr⟩, Nat.zero_le _, Nat.le_refl _⟩
  · have hlm : len ≤ m := by rw [hmm]; split <;> omega
    rw [show Tryd.prog.cellsOf 26 = 19 by kernel_rfl] at hx
    obtain ⟨f, hf⟩ := Deep.choose_lt (α := Rc) (n := len) (p := fun i r => r.Bd ∧ ∀ j, j < 19 → w.cell? (a.add (i * 19 + j)) = r.A[j]?) (fun i hi => by
      obtain ⟨cs', h1, h2⟩ := hx i (by omega)
      obtain ⟨r, rfl, B⟩ := rec_cells h2
      obtain ⟨_, _, hc⟩ := World.cells?_some h1
      refine ⟨r, B, fun j hj => ?_⟩
      have := hc j hj
      rw [Wd.add_of_add] at this
      rw [this, Array.getElem?_toList])
    have hlen : ((List.range len).map f).length = len := by simp
    refine ⟨some a, len, cap, (List.range len).map f, rfl, ⟨hlen, ⟨by rw [flat_len, hlen], fun hp => ⟨a, rfl, ?_, fun j u hu => ?_⟩⟩, fun r hr => ?_⟩, by omega, by omega⟩
    · have := (hf 0 hp).2 0 (by decide)
      have h2 : w.cell? (a.add (0 * 19 + 0)) = some _ := this
      have := World.block_lt_of_cell? w _ h2
      rwa [Wd.block_of_add] at this
    · have hj : j < (flat ((List.range len).map f)).length := by
        rcases Nat.lt_or_ge j (flat ((List.range len).map f)).length with g | g
        · exact g
        · rw [List.getElem?_eq_none g] at hu; cases hu
      rw [flat_len, hlen] at hj
      have e : j = 19 * (j / 19) + j % 19 := by omega
      have hk : j / 19 < len := by omega
      have hu' := hu
      rw [e, flat_at _ _ _ (by rw [hlen]; exact hk) (by omega)] at hu'
      have hg : ((List.range len).map f)[j / 19]'(by rw [hlen]; exact hk) = f (j / 19) := by simp
      rw [hg] at hu'
      have := (hf _ hk).2 (j % 19) (by omega)
      rw [show j / 19 * 19 + j % 19 = j by omega] at this
      rw [this, hu']
    · obtain ⟨i, hi, rfl⟩ := List.mem_map.1 hr
      exact (hf i (by simpa using hi)).1
theorem reasons_cells {H : Type} {enc : TypeId × Value → H} {W : World} {spare : Nat → Bool} {held : Bool} {fuel : Nat} {cs : List Value} {x : DataW H × List MemPlace}
    (hf : DataW.trod enc Tryd.prog W 0 spare held fuel 73 cs = some x) :
    ∃ (A : Option Addr) (n c : Nat) (zs : List Int), cs = [.slice A n c] ∧ Reads W W.heap.size 1 A n (zs.map (Value.int .u8)) ∧ n ≤ maxLen := by
  rcases open_ints Tryd.underlying73 Tryd.underlying85 (by kernel_rfl) hf with ⟨rfl, _⟩ | ⟨a, l, c, zs, rfl, _, hl, hm, hz, _, hcell, hwz⟩
  · exact ⟨none, 0, 0, [], rfl, Reads.none_, Nat.zero_le _⟩
  · have hlz : l ≤ zs.length := by rw [hz]; split <;> omega
    refine ⟨some a, l, c, zs.take l, rfl, ⟨by simp; omega, fun hp => ⟨a, rfl, ?_, fun j u hu => ?_⟩⟩, by omega⟩
    · have := World.block_lt_of_cell? W _ (hcell 0 (by omega))
      rwa [block_of_add] at this
    · simp only [List.getElem?_map, List.getElem?_take] at hu
      by_cases hj : j < l
      · rw [if_pos hj] at hu
        have hjz : j < zs.length := by omega
        rw [List.getElem?_eq_getElem hjz] at hu
        simp at hu
        rw [hcell j hjz, ← hu]; simp [hjz]
      · rw [if_neg hj] at hu; simp at hu
theorem plan_of {H : Type} {enc : TypeId × Value → H} {w : World} {r : Reach} {b0 : Nat} {spare : Nat → Bool} {held : Bool} {v : Value} {x : DataW H} {pl : List MemPlace}
    (hv : Value.okWide Tryd.prog w r b0 75 v) (h : DataW.Trod enc Tryd.prog w 0 spare held 75 v x pl) :
    ∃ (P : Int) (A A2 : Option Addr) (n c n2 c2 : Nat) (l : List Rc) (q : List Int), v = plV P A A2 n c n2 c2 ∧ PlanR w w.heap.size P A A2 n n2 l q ∧ n ≤ c := by
  obtain ⟨cs, rfl, hsz⟩ := okWide_struct Tryd.underlying75 hv
  obtain ⟨fuel, hf⟩ := h
  obtain ⟨xs, k, hk, hx, hcl, hxl, hf⟩ := DataW.trod_struct Tryd.underlying75 hf
  rw [show Tryd.prog.cellsOf 75 = 3 by kernel_rfl] at hcl
  obtain ⟨a, b, c, hcs⟩ := three hcl
  rw [hcs] at hf
  have hl3 : xs.length = 3 := hxl
  match xs, hl3 with
  | [y0, y1, y2], _ =>
    have k1 : Tryd.prog.cellsOf 3 = 1 := by kernel_rfl
    have k2 : Tryd.prog.cellsOf 38 = 1 := by kernel_rfl
    have k3 : Tryd.prog.cellsOf 73 = 1 := by kernel_rfl
    have g0 := hf 0 _ rfl
    have g1 := hf 1 _ rfl
    have g2 := hf 2 _ rfl
    simp [k1, k2, k3] at g0 g1 g2
    obtain ⟨a0, e0, _, w0⟩ := DataW.trod_int Tryd.underlying3 g0
    obtain ⟨A, n, c, l, e1, hR, hm, hnc⟩ := recs_cells2 g1
    obtain ⟨A2, n2, c2, q, e2, hq, hm2⟩ := reasons_cells g2
    simp at e0 e1 e2
    subst e0 e1 e2
    simp [Lit.wf, IntKind.min, IntKind.max, IntKind.signed, IntKind.bits] at w0
    simp [Value.cells] at hcs
    refine ⟨a0, A, A2, n, c, n2, c2, l, q, ?_, ⟨hR, hq, w0, hm, hm2⟩, hnc⟩
    show Value.agg cs = Value.agg _
    congr 1
    apply Array.toList_inj.1; simpa using hcs
end Go.Proofs.YtefcjccapekjdaaDoor.Sq
