/-
  A SOURCE THAT CAME IN, OPENED.
-/
import Derived.Test.YtoklcbkphipmkaaDoorRows
import Derived.Test.YtoklcbkphipmkaaDoorSrc
namespace Go.Proofs.YtoklcbkphipmkaaDoor.Sr
open Go.ChangeShapes Go.WideShapes Go.ChangeAt Go.RowKit
open Go.Proofs.YtoklcbkphipmkaaDoor
open Go.Proofs.YtoklcbkphipmkaaDoor.Wd
open Go.Proofs.YtoklcbkphipmkaaDoor.Sl
set_option linter.unusedVariables false
set_option maxRecDepth 20000
theorem u8b {n : Int} (h : (Lit.int .u8 n).wf = true) : 0 ≤ n ∧ n ≤ 255 := by
  simp [Lit.wf, IntKind.min, IntKind.max, IntKind.signed, IntKind.bits] at h; omega
theorem many2 {cs : List Value} (h : cs.length = 2) : ∃ x0 x1, cs = [x0, x1] := by
  match cs, h with
  | [x0, x1], _ => exact ⟨x0, x1, rfl⟩
theorem many3 {cs : List Value} (h : cs.length = 3) : ∃ x0 x1 x2, cs = [x0, x1, x2] := by
  match cs, h with
  | [x0, x1, x2], _ => exact ⟨x0, x1, x2, rfl⟩
theorem many4 {cs : List Value} (h : cs.length = 4) : ∃ x0 x1 x2 x3, cs = [x0, x1, x2, x3] := by
  match cs, h with
  | [x0, x1, x2, x3], _ => exact ⟨x0, x1, x2, x3, rfl⟩
theorem many7 {cs : List Value} (h : cs.length = 7) : ∃ x0 x1 x2 x3 x4 x5 x6, cs = [x0, x1, x2, x3, x4, x5, x6] := by
  match cs, h with
  | [x0, x1, x2, x3, x4, x5, x6], _ => exact ⟨x0, x1, x2, x3, x4, x5, x6, rfl⟩
theorem many11 {cs : List Value} (h : cs.length = 11) : ∃ x0 x1 x2 x3 x4 x5 x6 x7 x8 x9 x10, cs = [x0, x1, x2, x3, x4, x5, x6, x7, x8, x9, x10] := by
  match cs, h with
  | [x0, x1, x2, x3, x4, x5, x6, x7, x8, x9, x10], _ => exact ⟨x0, x1, x2, x3, x4, x5, x6, x7, x8, x9, x10, rfl⟩
theorem many13 {cs : List Value} (h : cs.length = 13) : ∃ x0 x1 x2 x3 x4 x5 x6 x7 x8 x9 x10 x11 x12, cs = [x0, x1, x2, x3, x4, x5, x6, x7, x8, x9, x10, x11, x12] := by
  match cs, h with
  | [x0, x1, x2, x3, x4, x5, x6, x7, x8, x9, x10, x11, x12], _ => exact ⟨x0, x1, x2, x3, x4, x5, x6, x7, x8, x9, x10, x11, x12, rfl⟩
theorem day_cells {H : Type} {enc : TypeId × Value → H} {w : World} {spare : Nat → Bool} {held : Bool} {fuel : Nat} {cs : List Value} {x : DataW H × List MemPlace}
    (hf : DataW.trod enc Tryd.prog w 0 spare held fuel 30 cs = some x) : ∃ v0 v1 v2, cs = [.int .u8 v0, .int .i64 v1, .int .i64 v2] ∧ ((0 ≤ v0 ∧ v0 ≤ 255) ∧ (Lit.int .i64 v1).wf = true ∧ (Lit.int .i64 v2).wf = true) := by
  obtain ⟨xs, k, hk, hx, hcl, hxl, hf⟩ := DataW.trod_struct Tryd.underlying30 hf
  rw [show Tryd.prog.cellsOf 30 = 3 by kernel_rfl] at hcl
  obtain ⟨x0, x1, x2, hcs⟩ := many3 hcl
  rw [hcs] at hf
  have hl : xs.length = 3 := hxl
  match xs, hl with
  | [y0, y1, y2], _ =>
    have k0 : Tryd.prog.cellsOf 3 = 1 := by kernel_rfl
    have k1 : Tryd.prog.cellsOf 28 = 1 := by kernel_rfl
    have g0 := hf 0 _ rfl
    have g1 := hf 1 _ rfl
    have g2 := hf 2 _ rfl
    simp [k0, k1] at g0 g1 g2
    obtain ⟨a0, e0, _, w0⟩ := DataW.trod_int Tryd.underlying28 g0
    obtain ⟨a1, e1, _, w1⟩ := DataW.trod_int Tryd.underlying3 g1
    obtain ⟨a2, e2, _, w2⟩ := DataW.trod_int Tryd.underlying3 g2
    simp at e0 e1 e2
    subst e0 e1 e2
    exact ⟨a0, a1, a2, hcs, u8b w0, w1, w2⟩
theorem mom_cells {H : Type} {enc : TypeId × Value → H} {w : World} {spare : Nat → Bool} {held : Bool} {fuel : Nat} {cs : List Value} {x : DataW H × List MemPlace}
    (hf : DataW.trod enc Tryd.prog w 0 spare held fuel 33 cs = some x) : ∃ v0 v1, cs = [.int .i64 v0, .int .u8 v1] ∧ ((Lit.int .i64 v0).wf = true ∧ (0 ≤ v1 ∧ v1 ≤ 255)) := by
  obtain ⟨xs, k, hk, hx, hcl, hxl, hf⟩ := DataW.trod_struct Tryd.underlying33 hf
  rw [show Tryd.prog.cellsOf 33 = 2 by kernel_rfl] at hcl
  obtain ⟨x0, x1, hcs⟩ := many2 hcl
  rw [hcs] at hf
  have hl : xs.length = 2 := hxl
  match xs, hl with
  | [y0, y1], _ =>
    have k0 : Tryd.prog.cellsOf 2 = 1 := by kernel_rfl
    have k1 : Tryd.prog.cellsOf 31 = 1 := by kernel_rfl
    have g0 := hf 0 _ rfl
    have g1 := hf 1 _ rfl
    simp [k0, k1] at g0 g1
    obtain ⟨a0, e0, _, w0⟩ := DataW.trod_int Tryd.underlying2 g0
    obtain ⟨a1, e1, _, w1⟩ := DataW.trod_int Tryd.underlying31 g1
    simp at e0 e1
    subst e0 e1
    exact ⟨a0, a1, hcs, w0, u8b w1⟩
theorem link_cells0 {H : Type} {enc : TypeId × Value → H} {w : World} {spare : Nat → Bool} {held : Bool} {fuel : Nat} {cs : List Value} {x : DataW H × List MemPlace}
    (hf : DataW.trod enc Tryd.prog w 0 spare held fuel 96 cs = some x) : ∃ v0 v1, cs = [.string v0, .string v1] ∧ (v0.size ≤ maxLen ∧ v1.size ≤ maxLen) := by
  obtain ⟨xs, k, hk, hx, hcl, hxl, hf⟩ := DataW.trod_struct Tryd.underlying96 hf
  rw [show Tryd.prog.cellsOf 96 = 2 by kernel_rfl] at hcl
  obtain ⟨x0, x1, hcs⟩ := many2 hcl
  rw [hcs] at hf
  have hl : xs.length = 2 := hxl
  match xs, hl with
  | [y0, y1], _ =>
    have k0 : Tryd.prog.cellsOf 9 = 1 := by kernel_rfl
    have g0 := hf 0 _ rfl
    have g1 := hf 1 _ rfl
    simp [k0] at g0 g1
    obtain ⟨a0, e0, _, w0⟩ := DataW.trod_string Tryd.underlying9 g0
    obtain ⟨a1, e1, _, w1⟩ := DataW.trod_string Tryd.underlying9 g1
    simp at e0 e1
    subst e0 e1
    exact ⟨a0, a1, hcs, w0, w1⟩
theorem link_cells {H : Type} {enc : TypeId × Value → H} {w : World} {spare : Nat → Bool} {held : Bool} {fuel : Nat} {cs : List Value} {x : DataW H × List MemPlace}
    (hf : DataW.trod enc Tryd.prog w 0 spare held fuel 96 cs = some x) : ∃ r : Li, cs = r.C.toList ∧ LiOk r := by
  obtain ⟨a, b, h, w0, w1⟩ := link_cells0 hf
  exact ⟨⟨a, b⟩, h, w0, w1⟩
theorem until_cells {H : Type} {enc : TypeId × Value → H} {w : World} {spare : Nat → Bool} {held : Bool} {fuel : Nat} {cs : List Value} {x : DataW H × List MemPlace}
    (hf : DataW.trod enc Tryd.prog w 0 spare held fuel 35 cs = some x) : ∃ a b c d e f g, cs = [.int .i64 a, .int .i64 b, .int .u8 c, .int .i64 d, .int .i64 e, .int .i64 f, .int .u8 g] ∧ ((Lit.int .i64 a).wf = true ∧ (Lit.int .i64 b).wf = true ∧ (0 ≤ c ∧ c ≤ 255) ∧ (Lit.int .i64 d).wf = true ∧ (Lit.int .i64 e).wf = true ∧ (Lit.int .i64 f).wf = true ∧ (0 ≤ g ∧ g ≤ 255)) := by
  obtain ⟨xs, k, hk, hx, hcl, hxl, hf⟩ := DataW.trod_struct Tryd.underlying35 hf
  rw [show Tryd.prog.cellsOf 35 = 7 by kernel_rfl] at hcl
  obtain ⟨x0, x1, x2, x3, x4, x5, x6, hcs⟩ := many7 hcl
  rw [hcs] at hf
  have hl : xs.length = 4 := hxl
  match xs, hl with
  | [y0, y1, y2, y3], _ =>
    have k0 : Tryd.prog.cellsOf 3 = 1 := by kernel_rfl
    have k1 : Tryd.prog.cellsOf 30 = 3 := by kernel_rfl
    have k2 : Tryd.prog.cellsOf 33 = 2 := by kernel_rfl
    have g0 := hf 0 _ rfl
    have g1 := hf 1 _ rfl
    have g2 := hf 2 _ rfl
    have g3 := hf 3 _ rfl
    simp [k0, k1, k2] at g0 g1 g2 g3
    obtain ⟨a0, e0, _, w0⟩ := DataW.trod_int Tryd.underlying3 g0
    obtain ⟨a1, e1, _, w1⟩ := DataW.trod_int Tryd.underlying3 g1
    obtain ⟨a20, a21, a22, e2, w20, w21, w22⟩ := day_cells g2
    obtain ⟨a30, a31, e3, w30, w31⟩ := mom_cells g3
    simp at e0 e1 e2 e3
    obtain ⟨rfl, rfl, rfl⟩ := e2
    obtain ⟨rfl, rfl⟩ := e3
    subst e0 e1
    exact ⟨a0, a1, a20, a21, a22, a30, a31, hcs, w0, w1, w20, w21, w22, w30, w31⟩
theorem rule_cells {H : Type} {enc : TypeId × Value → H} {w : World} {spare : Nat → Bool} {held : Bool} {fuel : Nat} {cs : List Value} {x : DataW H × List MemPlace}
    (hf : DataW.trod enc Tryd.prog w 0 spare held fuel 42 cs = some x) : ∃ r : Ru, cs = r.C.toList ∧ r.Bd := by
  obtain ⟨xs, k, hk, hx, hcl, hxl, hf⟩ := DataW.trod_struct Tryd.underlying42 hf
  rw [show Tryd.prog.cellsOf 42 = 11 by kernel_rfl] at hcl
  obtain ⟨x0, x1, x2, x3, x4, x5, x6, x7, x8, x9, x10, hcs⟩ := many11 hcl
  rw [hcs] at hf
  have hl : xs.length = 8 := hxl
  match xs, hl with
  | [y0, y1, y2, y3, y4, y5, y6, y7], _ =>
    have k0 : Tryd.prog.cellsOf 2 = 1 := by kernel_rfl
    have k1 : Tryd.prog.cellsOf 3 = 1 := by kernel_rfl
    have k2 : Tryd.prog.cellsOf 30 = 3 := by kernel_rfl
    have k3 : Tryd.prog.cellsOf 33 = 2 := by kernel_rfl
    have k4 : Tryd.prog.cellsOf 9 = 1 := by kernel_rfl
    have g0 := hf 0 _ rfl
    have g1 := hf 1 _ rfl
    have g2 := hf 2 _ rfl
    have g3 := hf 3 _ rfl
    have g4 := hf 4 _ rfl
    have g5 := hf 5 _ rfl
    have g6 := hf 6 _ rfl
    have g7 := hf 7 _ rfl
    simp [k0, k1, k2, k3, k4] at g0 g1 g2 g3 g4 g5 g6 g7
    obtain ⟨a0, e0, _, w0⟩ := DataW.trod_string Tryd.underlying9 g0
    obtain ⟨a1, e1, _, w1⟩ := DataW.trod_int Tryd.underlying3 g1
    obtain ⟨a2, e2, _, w2⟩ := DataW.trod_int Tryd.underlying3 g2
    obtain ⟨a3, e3, _, w3⟩ := DataW.trod_int Tryd.underlying3 g3
    obtain ⟨a40, a41, a42, e4, w40, w41, w42⟩ := day_cells g4
    obtain ⟨a50, a51, e5, w50, w51⟩ := mom_cells g5
    obtain ⟨a6, e6, _, w6⟩ := DataW.trod_int Tryd.underlying2 g6
    obtain ⟨a7, e7, _, w7⟩ := DataW.trod_string Tryd.underlying9 g7
    simp at e0 e1 e2 e3 e4 e5 e6 e7
    obtain ⟨rfl, rfl, rfl⟩ := e4
    obtain ⟨rfl, rfl⟩ := e5
    subst e0 e1 e2 e3 e6 e7
    exact ⟨⟨a0, a1, a2, a3, a40, a41, a42, a50, a51, a6, a7⟩, hcs, w0, w7, w40, w51, w1, w2, w3, w41, w42, w50, w6⟩
theorem era_cells {H : Type} {enc : TypeId × Value → H} {w : World} {spare : Nat → Bool} {held : Bool} {fuel : Nat} {cs : List Value} {x : DataW H × List MemPlace}
    (hf : DataW.trod enc Tryd.prog w 0 spare held fuel 37 cs = some x) : ∃ r : Er, cs = r.C.toList ∧ r.Bd := by
  obtain ⟨xs, k, hk, hx, hcl, hxl, hf⟩ := DataW.trod_struct Tryd.underlying37 hf
  rw [show Tryd.prog.cellsOf 37 = 13 by kernel_rfl] at hcl
  obtain ⟨x0, x1, x2, x3, x4, x5, x6, x7, x8, x9, x10, x11, x12, hcs⟩ := many13 hcl
  rw [hcs] at hf
  have hl : xs.length = 7 := hxl
  match xs, hl with
  | [y0, y1, y2, y3, y4, y5, y6], _ =>
    have k0 : Tryd.prog.cellsOf 4 = 1 := by kernel_rfl
    have k1 : Tryd.prog.cellsOf 2 = 1 := by kernel_rfl
    have k2 : Tryd.prog.cellsOf 27 = 1 := by kernel_rfl
    have k3 : Tryd.prog.cellsOf 35 = 7 := by kernel_rfl
    have k4 : Tryd.prog.cellsOf 9 = 1 := by kernel_rfl
    have g0 := hf 0 _ rfl
    have g1 := hf 1 _ rfl
    have g2 := hf 2 _ rfl
    have g3 := hf 3 _ rfl
    have g4 := hf 4 _ rfl
    have g5 := hf 5 _ rfl
    have g6 := hf 6 _ rfl
    simp [k0, k1, k2, k3, k4] at g0 g1 g2 g3 g4 g5 g6
    obtain ⟨a0, e0, _, w0⟩ := DataW.trod_int Tryd.underlying2 g0
    obtain ⟨a1, e1, _, w1⟩ := DataW.trod_int Tryd.underlying27 g1
    obtain ⟨a2, e2, _, w2⟩ := DataW.trod_int Tryd.underlying2 g2
    obtain ⟨a3, e3, _, w3⟩ := DataW.trod_string Tryd.underlying9 g3
    obtain ⟨a4, e4, _, w4⟩ := DataW.trod_string Tryd.underlying9 g4
    obtain ⟨a5, e5, _⟩ := DataW.trod_bool Tryd.underlying4 g5
    obtain ⟨a60, a61, a62, a63, a64, a65, a66, e6, w60, w61, w62, w63, w64, w65, w66⟩ := until_cells g6
    simp at e0 e1 e2 e3 e4 e5 e6
    obtain ⟨rfl, rfl, rfl, rfl, rfl, rfl, rfl⟩ := e6
    subst e0 e1 e2 e3 e4 e5
    exact ⟨⟨a0, a1, a2, a3, a4, a5, a60, a61, a62, a63, a64, a65, a66⟩, hcs, w3, w4, u8b w1, w62, w66, w0, w2, w60, w61, w63, w64, w65⟩
theorem eras_cells {H : Type} {enc : TypeId × Value → H} {w : World} {spare : Nat → Bool} {held : Bool} {fuel : Nat} {cs : List Value} {x : DataW H × List MemPlace}
    (h : DataW.trod enc Tryd.prog w 0 spare held fuel 61 cs = some x) :
    ∃ (A : Option Addr) (n c : Nat) (l : List Er), cs = [.slice A n c] ∧ Sls Er.C 13 w w.heap.size A n l ∧ (∀ r ∈ l, r.Bd) ∧ n ≤ maxLen ∧ n ≤ c :=
  sls_cells (f := Er.C) (sz := 13) (fun _ => rfl) (by decide) Er.Bd Tryd.underlying61 (by kernel_rfl) (fun h => era_cells h) h
theorem zone_cells {H : Type} {enc : TypeId × Value → H} {w : World} {spare : Nat → Bool} {held : Bool} {fuel : Nat} {cs : List Value} {x : DataW H × List MemPlace}
    (hf : DataW.trod enc Tryd.prog w 0 spare held fuel 63 cs = some x) : ∃ r : Zn, cs = r.C.toList ∧ ZnOk w w.heap.size r := by
  obtain ⟨xs, k, hk, hx, hcl, hxl, hf⟩ := DataW.trod_struct Tryd.underlying63 hf
  rw [show Tryd.prog.cellsOf 63 = 2 by kernel_rfl] at hcl
  obtain ⟨x0, x1, hcs⟩ := many2 hcl
  rw [hcs] at hf
  have hl : xs.length = 2 := hxl
  match xs, hl with
  | [y0, y1], _ =>
    have k0 : Tryd.prog.cellsOf 9 = 1 := by kernel_rfl
    have k1 : Tryd.prog.cellsOf 61 = 1 := by kernel_rfl
    have g0 := hf 0 _ rfl
    have g1 := hf 1 _ rfl
    simp [k0, k1] at g0 g1
    obtain ⟨s, e0, _, w0⟩ := DataW.trod_string Tryd.underlying9 g0
    obtain ⟨A, n, c, l, e1, hR, hB, hm, hnc⟩ := eras_cells g1
    simp at e0 e1
    subst e0 e1
    exact ⟨⟨s, A, n, c, l⟩, hcs, w0, hR, hB, hm, hnc⟩
theorem src_of {H : Type} {enc : TypeId × Value → H} {w : World} {r : Reach} {b0 : Nat} {spare : Nat → Bool} {held : Bool} {v : Value} {x : DataW H} {pl : List MemPlace}
    (hv : Value.okWide Tryd.prog w r b0 26 v) (h : DataW.Trod enc Tryd.prog w 0 spare held 26 v x pl) :
    ∃ (h : Hd) (S : So), v = h.V ∧ SoR w w.heap.size h S := by
  obtain ⟨cs, rfl, hsz⟩ := okWide_struct Tryd.underlying26 hv
  obtain ⟨fuel, hf⟩ := h
  obtain ⟨xs, k, hk, hx, hcl, hxl, hf⟩ := DataW.trod_struct Tryd.underlying26 hf
  rw [show Tryd.prog.cellsOf 26 = 3 by kernel_rfl] at hcl
  obtain ⟨x0, x1, x2, hcs⟩ := many3 hcl
  rw [hcs] at hf
  have hl : xs.length = 3 := hxl
  match xs, hl with
  | [y0, y1, y2], _ =>
    have k0 : Tryd.prog.cellsOf 22 = 1 := by kernel_rfl
    have k1 : Tryd.prog.cellsOf 23 = 1 := by kernel_rfl
    have k2 : Tryd.prog.cellsOf 24 = 1 := by kernel_rfl
    have g0 := hf 0 _ rfl
    have g1 := hf 1 _ rfl
    have g2 := hf 2 _ rfl
    simp [k0, k1, k2] at g0 g1 g2
    obtain ⟨rA, rn, rc, rs, e0, r0, b0', m0, n0⟩ := sls_cells (f := Ru.C) (sz := 11) (fun _ => rfl) (by decide) Ru.Bd Tryd.underlying22 (by kernel_rfl) (fun h => rule_cells h) g0
    obtain ⟨zA, zn, zc, zs, e1, r1, b1, m1, n1⟩ := sls_cells (f := Zn.C) (sz := 2) (fun _ => rfl) (by decide) (ZnOk w w.heap.size) Tryd.underlying23 (by kernel_rfl) (fun h => zone_cells h) g1
    obtain ⟨lA, ln, lc, ls, e2, r2, b2, m2, n2⟩ := sls_cells (f := Li.C) (sz := 2) (fun _ => rfl) (by decide) LiOk Tryd.underlying24 (by kernel_rfl) (fun h => link_cells h) g2
    simp at e0 e1 e2
    subst e0 e1 e2
    refine ⟨⟨rA, rn, rc, zA, zn, zc, lA, ln, lc⟩, ⟨rs, zs, ls⟩, ?_, ⟨r0, r1, r2, b0', b1, b2, ⟨m0, n0⟩, ⟨m1, n1⟩, ⟨m2, n2⟩⟩⟩
    simp [Value.cells] at hcs
    show Value.agg cs = Value.agg _
    congr 1
    apply Array.toList_inj.1; simpa using hcs
end Go.Proofs.YtoklcbkphipmkaaDoor.Sr
