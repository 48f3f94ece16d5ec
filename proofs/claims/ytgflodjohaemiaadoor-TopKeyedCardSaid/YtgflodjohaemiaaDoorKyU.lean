/-
  CHARTS: A CHART THAT CAME IN, OPENED.
-/
import Derived.Test.YtgflodjohaemiaaDoorKyT
namespace Go.Proofs.YtgflodjohaemiaaDoor.Ky
open Go.ChangeShapes Go.WideShapes Go.ChangeAt Go.RowKit
open Go.Proofs.YtgflodjohaemiaaDoor
open Go.Proofs.YtgflodjohaemiaaDoor.Wd
open Go.Proofs.YtgflodjohaemiaaDoor.Sl
set_option linter.unusedVariables false
set_option maxRecDepth 20000
theorem many3 {cs : List Value} (h : cs.length = 3) : ∃ x0 x1 x2, cs = [x0, x1, x2] := by
  match cs, h with
  | [x0, x1, x2], _ => exact ⟨x0, x1, x2, rfl⟩
theorem str_cells {H : Type} {enc : TypeId × Value → H} {w : World} {spare : Nat → Bool} {held : Bool} {fuel : Nat} {cs : List Value} {x : DataW H × List MemPlace}
    (hf : DataW.trod enc Tryd.prog w 0 spare held fuel 9 cs = some x) : ∃ r : ByteArray, cs = (stC r).toList ∧ r.size ≤ maxLen := by
  obtain ⟨a, e, _, h⟩ := DataW.trod_string Tryd.underlying9 hf
  exact ⟨a, e, h⟩
theorem entry_cells {H : Type} {enc : TypeId × Value → H} {w : World} {spare : Nat → Bool} {held : Bool} {fuel : Nat} {cs : List Value} {x : DataW H × List MemPlace}
    (hf : DataW.trod enc Tryd.prog w 0 spare held fuel 58 cs = some x) : ∃ r : En, cs = r.C.toList ∧ EnOk w w.heap.size r := by
  obtain ⟨xs, k, hk, hx, hcl, hxl, hf⟩ := DataW.trod_struct Tryd.underlying58 hf
  rw [show Tryd.prog.cellsOf 58 = 3 by kernel_rfl] at hcl
  obtain ⟨x0, x1, x2, hcs⟩ := many3 hcl
  rw [hcs] at hf
  have hl : xs.length = 3 := hxl
  match xs, hl with
  | [y0, y1, y2], _ =>
    have k0 : Tryd.prog.cellsOf 9 = 1 := by kernel_rfl
    have k1 : Tryd.prog.cellsOf 30 = 1 := by kernel_rfl
    have g0 := hf 0 _ rfl
    have g1 := hf 1 _ rfl
    have g2 := hf 2 _ rfl
    simp [k0, k1] at g0 g1 g2
    obtain ⟨a0, e0, _, w0⟩ := DataW.trod_string Tryd.underlying9 g0
    obtain ⟨a1, e1, _, w1⟩ := DataW.trod_string Tryd.underlying9 g1
    obtain ⟨B, n, c, l, e2, r1, r2, r3, r4⟩ := sls_cells (f := stC) (sz := 1) (fun _ => rfl) (by decide) (fun r : ByteArray => r.size ≤ maxLen) Tryd.underlying30 (by kernel_rfl) (fun h => str_cells h) g2
    simp at e0 e1 e2
    subst e0 e1 e2
    exact ⟨⟨a0, a1, B, n, c, l⟩, hcs, w0, w1, r1, r2, r3⟩
instance : Inhabited En := ⟨En.nil⟩
theorem chart_of {H : Type} {enc : TypeId × Value → H} {w : World} {r : Reach} {b0 : Nat} {spare : Nat → Bool} {held : Bool} {v : Value} {x : DataW H} {pl : List MemPlace}
    (hv : Value.okWide Tryd.prog w r b0 22 v) (h : DataW.Trod enc Tryd.prog w 0 spare held 22 v x pl) :
    ∃ (B : Option Addr) (n c : Nat) (l : List En), v = .slice B n c ∧ ChR w w.heap.size B n c l := by
  obtain ⟨B, n, c, rfl⟩ := okWide_slice Tryd.underlying22 hv
  obtain ⟨fuel, hf⟩ := h
  obtain ⟨B', n', c', l, e, r1, r2, r3, r4⟩ := sls_cells (f := En.C) (sz := 3) (fun _ => rfl) (by decide) (EnOk w w.heap.size) Tryd.underlying22 (by kernel_rfl) (fun h => entry_cells h) hf
  simp [Value.cells] at e
  obtain ⟨rfl, rfl, rfl⟩ := e
  exact ⟨B, n, c, l, rfl, r1, r2, r3⟩
end Go.Proofs.YtgflodjohaemiaaDoor.Ky
