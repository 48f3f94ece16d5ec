/-
  PLACES THAT CAME IN, OPENED.
-/
import Derived.Test.YtoiccljmdplfgaaRows
import Derived.Test.YtoiccljmdplfgaaSrcO
import Derived.Test.YtoiccljmdplfgaaNr1
namespace Go.Proofs.Ytoiccljmdplfgaa.Nr
open Go.ChangeShapes Go.WideShapes Go.ChangeAt Go.RowKit
open Go.Proofs.Ytoiccljmdplfgaa
open Go.Proofs.Ytoiccljmdplfgaa.Wd
open Go.Proofs.Ytoiccljmdplfgaa.Pl
open Go.Proofs.Ytoiccljmdplfgaa.Sl
open Go.Proofs.Ytoiccljmdplfgaa.Sr (many2 many3)
set_option linter.unusedVariables false
set_option maxRecDepth 20000
theorem pt_cells {H : Type} {enc : TypeId × Value → H} {w : World} {spare : Nat → Bool} {held : Bool} {fuel : Nat} {cs : List Value} {x : DataW H × List MemPlace}
    (hf : DataW.trod enc Try.prog w 0 spare held fuel 23 cs = some x) : ∃ a b, cs = [.int .i64 a, .int .i64 b] := by
  obtain ⟨xs, k, hk, hx, hcl, hxl, hf⟩ := DataW.trod_struct Try.underlying23 hf
  rw [show Try.prog.cellsOf 23 = 2 by kernel_rfl] at hcl
  obtain ⟨x0, x1, hcs⟩ := many2 hcl
  rw [hcs] at hf
  have hl : xs.length = 2 := hxl
  match xs, hl with
  | [y0, y1], _ =>
    have k0 : Try.prog.cellsOf 3 = 1 := by kernel_rfl
    have g0 := hf 0 _ rfl
    have g1 := hf 1 _ rfl
    simp [k0] at g0 g1
    obtain ⟨a0, e0, _, _⟩ := DataW.trod_int Try.underlying3 g0
    obtain ⟨a1, e1, _, _⟩ := DataW.trod_int Try.underlying3 g1
    simp at e0 e1
    subst e0 e1
    exact ⟨a0, a1, hcs⟩
theorem many4' {cs : List Value} (h : cs.length = 4) : ∃ x0 x1 x2 x3, cs = [x0, x1, x2, x3] := by
  match cs, h with
  | [x0, x1, x2, x3], _ => exact ⟨x0, x1, x2, x3, rfl⟩
theorem place_cells {H : Type} {enc : TypeId × Value → H} {w : World} {spare : Nat → Bool} {held : Bool} {fuel : Nat} {cs : List Value} {x : DataW H × List MemPlace}
    (hf : DataW.trod enc Try.prog w 0 spare held fuel 67 cs = some x) : ∃ r : Pc, cs = r.C.toList ∧ (r.t.size ≤ maxLen ∧ r.z.size ≤ maxLen) := by
  obtain ⟨xs, k, hk, hx, hcl, hxl, hf⟩ := DataW.trod_struct Try.underlying67 hf
  rw [show Try.prog.cellsOf 67 = 4 by kernel_rfl] at hcl
  obtain ⟨x0, x1, x2, x3, hcs⟩ := many4' hcl
  rw [hcs] at hf
  have hl : xs.length = 3 := hxl
  match xs, hl with
  | [y0, y1, y2], _ =>
    have k0 : Try.prog.cellsOf 9 = 1 := by kernel_rfl
    have k1 : Try.prog.cellsOf 23 = 2 := by kernel_rfl
    have g0 := hf 0 _ rfl
    have g1 := hf 1 _ rfl
    have g2 := hf 2 _ rfl
    simp [k0, k1] at g0 g1 g2
    obtain ⟨a0, e0, _, w0⟩ := DataW.trod_string Try.underlying9 g0
    obtain ⟨a1, a2, e1⟩ := pt_cells g1
    obtain ⟨a3, e3, _, w3⟩ := DataW.trod_string Try.underlying9 g2
    simp at e0 e1 e3
    obtain ⟨rfl, rfl⟩ := e1
    subst e0 e3
    exact ⟨⟨a0, ⟨a1, a2⟩, a3⟩, hcs, w0, w3⟩
theorem flatC_eq (l : List Pc) : flat Pc.C l = flatC l := by
  induction l with
  | nil => rfl
  | cons a l ih => show a.C.toList ++ flat Pc.C l = a.C.toList ++ flatC l; rw [ih]
instance : Inhabited Pc := ⟨Pc.nil⟩
theorem places_of {H : Type} {enc : TypeId × Value → H} {w : World} {r : Reach} {b0 : Nat} {spare : Nat → Bool} {held : Bool} {v : Value} {x : DataW H} {pl : List MemPlace}
    (hv : Value.okWide Try.prog w r b0 51 v) (h : DataW.Trod enc Try.prog w 0 spare held 51 v x pl) :
    ∃ (A : Option Addr) (n c : Nat) (L : List Pc), v = .slice A n c ∧ Pcs w w.heap.size A n L ∧ n ≤ maxLen ∧ n ≤ c := by
  obtain ⟨A, n, c, rfl⟩ := okWide_slice Try.underlying51 hv
  obtain ⟨fuel, hf⟩ := h
  obtain ⟨A', n', c', l, e, r1, r2, r3, r4⟩ := sls_cells (f := Pc.C) (sz := 4) (fun _ => rfl) (by decide) (fun r : Pc => r.t.size ≤ maxLen ∧ r.z.size ≤ maxLen) Try.underlying51 (by kernel_rfl) (fun h => place_cells h) hf
  simp [Value.cells] at e
  obtain ⟨rfl, rfl, rfl⟩ := e
  exact ⟨A, n, c, l, rfl, ⟨r1.len, by rw [← flatC_eq]; exact r1.r, r2⟩, r3, r4⟩
theorem place_of {H : Type} {enc : TypeId × Value → H} {w : World} {r : Reach} {b0 : Nat} {spare : Nat → Bool} {held : Bool} {v : Value} {x : DataW H} {pl : List MemPlace}
    (hv : Value.okWide Try.prog w r b0 67 v) (h : DataW.Trod enc Try.prog w 0 spare held 67 v x pl) :
    ∃ a : Pc, v = a.V ∧ a.t.size ≤ maxLen ∧ a.z.size ≤ maxLen := by
  obtain ⟨cs, rfl, hsz⟩ := okWide_struct Try.underlying67 hv
  obtain ⟨fuel, hf⟩ := h
  obtain ⟨a, e, h1, h2⟩ := place_cells hf
  refine ⟨a, ?_, h1, h2⟩
  show Value.agg cs = Value.agg _
  congr 1
  simp [Value.cells] at e
  apply Array.toList_inj.1; simpa using e
end Go.Proofs.Ytoiccljmdplfgaa.Nr
