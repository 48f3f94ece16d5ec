/-
  A STAMP THAT CAME IN, OPENED: its eight numbers, each of sixteen bits.
-/
import Derived.Test.YtgdgkgeoigljcaaDoorStp
import Derived.ProofKit
import Derived.OpenShut
import Derived.ChangeArms
import Derived.Lib.SmallJoins
namespace Go.Proofs.YtgdgkgeoigljcaaDoor.Stp
open Go.ChangeShapes Go.WideShapes Go.ChangeAt Go.RowKit
open Go.Proofs.YtgdgkgeoigljcaaDoor
set_option linter.unusedVariables false
set_option maxRecDepth 20000
theorem eight {cs : List Value} (h : cs.length = 8) : ∃ a b c d e f g i, cs = [a, b, c, d, e, f, g, i] := by
  match cs, h with
  | [a, b, c, d, e, f, g, i], _ => exact ⟨a, b, c, d, e, f, g, i, rfl⟩
theorem stamp_cells {H : Type} {enc : TypeId × Value → H} {w : World} {base : Nat} {spare : Nat → Bool} {held : Bool} {fuel : Nat} {cs : List Value} {x : DataW H × List MemPlace}
    (h : DataW.trod enc Tryd.prog w base spare held fuel 24 cs = some x) :
    ∃ y m v d h i s u : Int, cs = [.int .u16 y, .int .u16 m, .int .u16 v, .int .u16 d, .int .u16 h, .int .u16 i, .int .u16 s, .int .u16 u] ∧ Bd y m v d h i s u := by
  obtain ⟨xs, k, hk, hx, hcl, hxl, hf⟩ := DataW.trod_struct Tryd.underlying24 h
  rw [show Tryd.prog.cellsOf 24 = 8 by kernel_rfl] at hcl
  obtain ⟨c0, c1, c2, c3, c4, c5, c6, c7, rfl⟩ := eight hcl
  have hl8 : xs.length = 8 := hxl
  match xs, hl8 with
  | [y0, y1, y2, y3, y4, y5, y6, y7], _ =>
    have k1 : Tryd.prog.cellsOf 22 = 1 := by kernel_rfl
    have g0 := hf 0 _ rfl
    have g1 := hf 1 _ rfl
    have g2 := hf 2 _ rfl
    have g3 := hf 3 _ rfl
    have g4 := hf 4 _ rfl
    have g5 := hf 5 _ rfl
    have g6 := hf 6 _ rfl
    have g7 := hf 7 _ rfl
    simp [k1] at g0 g1 g2 g3 g4 g5 g6 g7
    obtain ⟨a0, e0, _, w0⟩ := DataW.trod_int Tryd.underlying22 g0
    obtain ⟨a1, e1, _, w1⟩ := DataW.trod_int Tryd.underlying22 g1
    obtain ⟨a2, e2, _, w2⟩ := DataW.trod_int Tryd.underlying22 g2
    obtain ⟨a3, e3, _, w3⟩ := DataW.trod_int Tryd.underlying22 g3
    obtain ⟨a4, e4, _, w4⟩ := DataW.trod_int Tryd.underlying22 g4
    obtain ⟨a5, e5, _, w5⟩ := DataW.trod_int Tryd.underlying22 g5
    obtain ⟨a6, e6, _, w6⟩ := DataW.trod_int Tryd.underlying22 g6
    obtain ⟨a7, e7, _, w7⟩ := DataW.trod_int Tryd.underlying22 g7
    simp at e0 e1 e2 e3 e4 e5 e6 e7
    subst e0 e1 e2 e3 e4 e5 e6 e7
    simp [Lit.wf, IntKind.min, IntKind.max, IntKind.signed, IntKind.bits] at w0 w1 w2 w3 w4 w5 w6 w7
    exact ⟨a0, a1, a2, a3, a4, a5, a6, a7, rfl, w0, w1, w2, w3, w4, w5, w6, w7⟩
theorem stamp_of {H : Type} {enc : TypeId × Value → H} {w : World} {r : Reach} {b0 : Nat} {spare : Nat → Bool} {held : Bool} {v : Value} {d : DataW H} {p : List MemPlace}
    (hv : Value.okWide Tryd.prog w r b0 24 v) (h : DataW.Trod enc Tryd.prog w 0 spare held 24 v d p) :
    ∃ y m v' d' h i s u : Int, v = stV y m v' d' h i s u ∧ Bd y m v' d' h i s u := by
  obtain ⟨cs, rfl, hsz⟩ := okWide_struct Tryd.underlying24 hv
  obtain ⟨fuel, hf⟩ := h
  obtain ⟨y, m, v, d, h, i, s, u, e, B⟩ := stamp_cells hf
  simp [Value.cells] at e
  have : cs = #[.int .u16 y, .int .u16 m, .int .u16 v, .int .u16 d, .int .u16 h, .int .u16 i, .int .u16 s, .int .u16 u] := by
    apply Array.toList_inj.1; simpa using e
  subst this
  exact ⟨y, m, v, d, h, i, s, u, rfl, B⟩
end Go.Proofs.YtgdgkgeoigljcaaDoor.Stp
