/-
  A RECORD THAT CAME IN, OPENED: its three numbers and its two stamps.
-/
import Derived.Test.YtgdgkgeoigljcaaDoorQa
import Derived.Test.YtgdgkgeoigljcaaDoorStpO
namespace Go.Proofs.YtgdgkgeoigljcaaDoor.Rec
open Go.ChangeShapes Go.WideShapes Go.ChangeAt Go.RowKit
open Go.Proofs.YtgdgkgeoigljcaaDoor
set_option linter.unusedVariables false
set_option maxRecDepth 20000
theorem nineteen {cs : List Value} (h : cs.length = 19) : ∃ a b c d e f g i j k l m n o p q r s t, cs = [a, b, c, d, e, f, g, i, j, k, l, m, n, o, p, q, r, s, t] := by
  match cs, h with
  | [a, b, c, d, e, f, g, i, j, k, l, m, n, o, p, q, r, s, t], _ => exact ⟨a, b, c, d, e, f, g, i, j, k, l, m, n, o, p, q, r, s, t, rfl⟩
theorem rec_of {H : Type} {enc : TypeId × Value → H} {w : World} {r : Reach} {b0 : Nat} {spare : Nat → Bool} {held : Bool} {v : Value} {x : DataW H} {pl : List MemPlace}
    (hv : Value.okWide Tryd.prog w r b0 26 v) (h : DataW.Trod enc Tryd.prog w 0 spare held 26 v x pl) :
    ∃ (b c d : Int) (p q : St), v = rcV b c d p q ∧ RBd b c d p q := by
  obtain ⟨cs, rfl, hsz⟩ := okWide_struct Tryd.underlying26 hv
  obtain ⟨fuel, hf⟩ := h
  obtain ⟨xs, k, hk, hx, hcl, hxl, hf⟩ := DataW.trod_struct Tryd.underlying26 hf
  rw [show Tryd.prog.cellsOf 26 = 19 by kernel_rfl] at hcl
  obtain ⟨a, b, c, d, e, f, g, i, j, k, l, m, n, o, p, q, r, s, t, hcs⟩ := nineteen hcl
  rw [hcs] at hf
  have hl5 : xs.length = 5 := hxl
  match xs, hl5 with
  | [y0, y1, y2, y3, y4], _ =>
    have k1 : Tryd.prog.cellsOf 21 = 1 := by kernel_rfl
    have k8 : Tryd.prog.cellsOf 24 = 8 := by kernel_rfl
    have g0 := hf 0 _ rfl
    have g1 := hf 1 _ rfl
    have g2 := hf 2 _ rfl
    have g3 := hf 3 _ rfl
    have g4 := hf 4 _ rfl
    simp [k1, k8] at g0 g1 g2 g3 g4
    obtain ⟨a0, e0, _, w0⟩ := DataW.trod_int Tryd.underlying21 g0
    obtain ⟨a1, e1, _, w1⟩ := DataW.trod_int Tryd.underlying21 g1
    obtain ⟨a2, e2, _, w2⟩ := DataW.trod_int Tryd.underlying21 g2
    obtain ⟨p1, p2, p3, p4, p5, p6, p7, p8, e3, B3⟩ := Stp.stamp_cells g3
    obtain ⟨q1, q2, q3, q4, q5, q6, q7, q8, e4, B4⟩ := Stp.stamp_cells g4
    simp at e0 e1 e2 e3 e4
    obtain ⟨rfl, rfl, rfl, rfl, rfl, rfl, rfl, rfl⟩ := e3
    obtain ⟨rfl, rfl, rfl, rfl, rfl, rfl, rfl, rfl⟩ := e4
    subst e0 e1 e2
    simp [Lit.wf, IntKind.min, IntKind.max, IntKind.signed, IntKind.bits] at w0 w1 w2
    simp [Value.cells] at hcs
    refine ⟨a0, a1, a2, ⟨p1, p2, p3, p4, p5, p6, p7, p8⟩, ⟨q1, q2, q3, q4, q5, q6, q7, q8⟩, ?_, w0, w1, w2, B3, B4⟩
    show Value.agg cs = Value.agg _
    congr 1
    apply Array.toList_inj.1; simpa using hcs
end Go.Proofs.YtgdgkgeoigljcaaDoor.Rec
