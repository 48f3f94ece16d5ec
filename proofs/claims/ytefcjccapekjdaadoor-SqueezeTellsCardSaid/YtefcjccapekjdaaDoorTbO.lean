/-
  A TABLE THAT CAME IN, OPENED: its two years and its records, each with its cells.
-/
import Derived.Test.YtefcjccapekjdaaDoorQp
import Derived.Test.YtefcjccapekjdaaDoorTbA
import Derived.Deep.Slices
namespace Go.Proofs.YtefcjccapekjdaaDoor.Tb
open Go.ChangeShapes Go.WideShapes Go.ChangeAt Go.RowKit
open Go.Proofs.YtefcjccapekjdaaDoor
open Go.Proofs.YtefcjccapekjdaaDoor.Wd
open Go.Proofs.YtefcjccapekjdaaDoor.Rec
set_option linter.unusedVariables false
set_option maxRecDepth 20000
instance : Inhabited Rc := ⟨Rc.nil⟩
theorem rec_cells {H : Type} {enc : TypeId × Value → H} {w : World} {base : Nat} {spare : Nat → Bool} {held : Bool} {fuel : Nat} {cs : List Value} {x : DataW H × List MemPlace}
    (hf : DataW.trod enc Tryd.prog w base spare held fuel 26 cs = some x) : ∃ r : Rc, cs = r.A.toList ∧ r.Bd := by
  obtain ⟨xs, k, hk, hx, hcl, hxl, hf⟩ := DataW.trod_struct Tryd.underlying26 hf
  rw [show Tryd.prog.cellsOf 26 = 19 by kernel_rfl] at hcl
  obtain ⟨a, b, c, d, e, f, g, i, j, k, l, m, n, o, p, q, r, s, t, hcs⟩ := nineteen hcl
  rw [hcs] at hf
  have hl5 : xs.length = 5 := hxl
  match xs, hl5 with
  | [y0, y1, y2, y3, y4], _ =>
    have k1 : Tryd.prog.cellsOf 21 = 1 := by kernel_rfl
    have k8 : Tryd.prog.cellsOf 24 = 8 := by kernel_rfl
    have g0 := hf 0 _ rfl
    have g1 := hf 1 _ rfl
    have g2 := hf 2 _ rfl
    have g3 := hf 3 _ rfl
    have g4 := hf 4 _ rfl
    simp [k1, k8] at g0 g1 g2 g3 g4
    obtain ⟨a0, e0, _, w0⟩ := DataW.trod_int Tryd.underlying21 g0
    obtain ⟨a1, e1, _, w1⟩ := DataW.trod_int Tryd.underlying21 g1
    obtain ⟨a2, e2, _, w2⟩ := DataW.trod_int Tryd.underlying21 g2
    obtain ⟨p1, p2, p3, p4, p5, p6, p7, p8, e3, B3⟩ := Stp.stamp_cells g3
    obtain ⟨q1, q2, q3, q4, q5, q6, q7, q8, e4, B4⟩ := Stp.stamp_cells g4
    simp at e0 e1 e2 e3 e4
    obtain ⟨rfl, rfl, rfl, rfl, rfl, rfl, rfl, rfl⟩ := e3
    obtain ⟨rfl, rfl, rfl, rfl, rfl, rfl, rfl, rfl⟩ := e4
    subst e0 e1 e2
    simp [Lit.wf, IntKind.min, IntKind.max, IntKind.signed, IntKind.bits] at w0 w1 w2
    exact ⟨⟨a0, a1, a2, ⟨p1, p2, p3, p4, p5, p6, p7, p8⟩, ⟨q1, q2, q3, q4, q5, q6, q7, q8⟩⟩, hcs, w0, w1, w2, B3, B4⟩
theorem recs_cells {H : Type} {enc : TypeId × Value → H} {w : World} {spare : Nat → Bool} {held : Bool} {fuel : Nat} {cs : List Value} {x : DataW H × List MemPlace}
    (h : DataW.trod enc Tryd.prog w 0 spare held fuel 38 cs = some x) :
    ∃ (A : Option Addr) (n c : Nat) (l : List Rc), cs = [.slice A n c] ∧ Recs w w.heap.size A n l ∧ n ≤ maxLen := by
  rcases Deep.open_slice Tryd.underlying38 h with ⟨rfl, _⟩ | ⟨a, len, cap, m, n, D, Pl, rfl, _, hl, hm, hmm, _, hx⟩
  · exact ⟨none, 0, 0, [], rfl, ⟨rfl, Reads.none_, fun r hr => by cases hr⟩, Nat.zero_le _⟩
  · have hlm : len ≤ m := by rw [hmm]; split <;> omega
    rw [show Tryd.prog.cellsOf 26 = 19 by kernel_rfl] at hx
    obtain ⟨f, hf⟩ := Deep.choose_lt (α := Rc) (n := len) (p := fun i r => r.Bd ∧ ∀ j, j < 19 → w.cell? (a.add (i * 19 + j)) = r.A[j]?) (fun i hi => by
      obtain ⟨cs', h1, h2⟩ := hx i (by omega)
      obtain ⟨r, rfl, B⟩ := rec_cells h2
      obtain ⟨_, _, hc⟩ := World.cells?_some h1
      refine ⟨r, B, fun j hj => ?_⟩
      have := hc j hj
      rw [Wd.add_of_add] at this
      rw [this, Array.getElem?_toList])
    have hlen : ((List.range len).map f).length = len := by simp
    refine ⟨some a, len, cap, (List.range len).map f, rfl, ⟨hlen, ⟨by rw [flat_len, hlen], fun hp => ⟨a, rfl, ?_, fun j u hu => ?_⟩⟩, fun r hr => ?_⟩, by omega⟩
    · have := (hf 0 hp).2 0 (by decide)
      have h2 : w.cell? (a.add (0 * 19 + 0)) = some _ := this
      have := World.block_lt_of_cell? w _ h2
      rwa [Wd.block_of_add] at this
    · have hj : j < (flat ((List.range len).map f)).length := by
        rcases Nat.lt_or_ge j (flat ((List.range len).map f)).length with g | g
        · exact g
        · rw [List.getElem?_eq_none g] at hu; cases hu
      rw [flat_len, hlen] at hj
      have e : j = 19 * (j / 19) + j % 19 := by omega
      have hk : j / 19 < len := by omega
      have hu' := hu
      rw [e, flat_at _ _ _ (by rw [hlen]; exact hk) (by omega)] at hu'
      have hg : ((List.range len).map f)[j / 19]'(by rw [hlen]; exact hk) = f (j / 19) := by simp
      rw [hg] at hu'
      have := (hf _ hk).2 (j % 19) (by omega)
      rw [show j / 19 * 19 + j % 19 = j by omega] at this
      rw [this, hu']
    · obtain ⟨i, hi, rfl⟩ := List.mem_map.1 hr
      exact (hf i (by simpa using hi)).1
theorem three {cs : List Value} (h : cs.length = 3) : ∃ a b c, cs = [a, b, c] := by
  match cs, h with
  | [a, b, c], _ => exact ⟨a, b, c, rfl⟩
theorem table_of {H : Type} {enc : TypeId × Value → H} {w : World} {r : Reach} {b0 : Nat} {spare : Nat → Bool} {held : Bool} {v : Value} {x : DataW H} {pl : List MemPlace}
    (hv : Value.okWide Tryd.prog w r b0 40 v) (h : DataW.Trod enc Tryd.prog w 0 spare held 40 v x pl) :
    ∃ (F L : Int) (A : Option Addr) (n c : Nat) (l : List Rc), v = .agg #[.int .i64 F, .int .i64 L, .slice A n c] ∧ (-9223372036854775808 ≤ F ∧ F ≤ 9223372036854775807) ∧ (-9223372036854775808 ≤ L ∧ L ≤ 9223372036854775807) ∧ Recs w w.heap.size A n l ∧ n ≤ maxLen := by
  obtain ⟨cs, rfl, hsz⟩ := okWide_struct Tryd.underlying40 hv
  obtain ⟨fuel, hf⟩ := h
  obtain ⟨xs, k, hk, hx, hcl, hxl, hf⟩ := DataW.trod_struct Tryd.underlying40 hf
  rw [show Tryd.prog.cellsOf 40 = 3 by kernel_rfl] at hcl
  obtain ⟨a, b, c, hcs⟩ := three hcl
  rw [hcs] at hf
  have hl3 : xs.length = 3 := hxl
  match xs, hl3 with
  | [y0, y1, y2], _ =>
    have k1 : Tryd.prog.cellsOf 3 = 1 := by kernel_rfl
    have k2 : Tryd.prog.cellsOf 38 = 1 := by kernel_rfl
    have g0 := hf 0 _ rfl
    have g1 := hf 1 _ rfl
    have g2 := hf 2 _ rfl
    simp [k1, k2] at g0 g1 g2
    obtain ⟨a0, e0, _, w0⟩ := DataW.trod_int Tryd.underlying3 g0
    obtain ⟨a1, e1, _, w1⟩ := DataW.trod_int Tryd.underlying3 g1
    obtain ⟨A, n, c, l, e2, hR, hm⟩ := recs_cells g2
    simp at e0 e1 e2
    subst e0 e1 e2
    simp [Lit.wf, IntKind.min, IntKind.max, IntKind.signed, IntKind.bits] at w0 w1
    simp [Value.cells] at hcs
    refine ⟨a0, a1, A, n, c, l, ?_, w0, w1, hR, hm⟩
    show Value.agg cs = Value.agg _
    congr 1
    apply Array.toList_inj.1; simpa using hcs
end Go.Proofs.YtefcjccapekjdaaDoor.Tb
