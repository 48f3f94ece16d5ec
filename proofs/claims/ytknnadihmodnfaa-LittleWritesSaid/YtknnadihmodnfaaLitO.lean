/-
  LittleWrites: its list of acts, opened.
-/
import Derived.Test.YtknnadihmodnfaaLitW
import Derived.ProofKit
import Derived.Deep.Slices
namespace Go.Proofs.Ytknnadihmodnfaa.Lit
open Go.ChangeShapes Go.WideShapes Go.ChangeAt Go.RowKit
open Go.Proofs.Ytknnadihmodnfaa
open Go.Proofs.Ytknnadihmodnfaa.Wd
set_option linter.unusedVariables false
instance : Inhabited ActD := ⟨⟨0, 0, 0, ⟨#[]⟩⟩⟩
theorem four {cs : List Value} (h : cs.length = 4) : ∃ a b c d, cs = [a, b, c, d] := by
  match cs, h with
  | [a, b, c, d], _ => exact ⟨a, b, c, d, rfl⟩
theorem act_of {H : Type} {enc : TypeId × Value → H} {w : World} {base : Nat} {spare : Nat → Bool} {held : Bool} {fuel : Nat} {cs : List Value} {x : DataW H × List MemPlace}
    (h : DataW.trod enc Try.prog w base spare held fuel 30 cs = some x) : ∃ q : ActD, cs = q.cells ∧ q.n < 18446744073709551616 := by
  obtain ⟨xs, k, hk, hx, hcl, hxl, hf⟩ := DataW.trod_struct Try.underlying30 h
  rw [show Try.prog.cellsOf 30 = 4 by kernel_rfl] at hcl
  obtain ⟨c0, c1, c2, c3, rfl⟩ := four hcl
  have hl4 : xs.length = 4 := hxl
  match xs, hl4 with
  | [y0, y1, y2, y3], _ =>
    have g0 := hf 0 _ rfl
    have g1 := hf 1 _ rfl
    have g2 := hf 2 _ rfl
    have g3 := hf 3 _ rfl
    have k1 : Try.prog.cellsOf 3 = 1 := by kernel_rfl
    have k2 : Try.prog.cellsOf 28 = 1 := by kernel_rfl
    have k3 : Try.prog.cellsOf 9 = 1 := by kernel_rfl
    simp [k1, k2, k3] at g0 g1 g2 g3
    obtain ⟨a0, e0, _, w0⟩ := DataW.trod_int Try.underlying3 g0
    obtain ⟨a1, e1, _, w1⟩ := DataW.trod_int Try.underlying3 g1
    obtain ⟨a2, e2, _, w2⟩ := DataW.trod_int Try.underlying28 g2
    obtain ⟨a3, e3, _, w3⟩ := DataW.trod_string Try.underlying9 g3
    simp at e0 e1 e2 e3
    subst e0 e1 e2 e3
    simp [Lit.wf, IntKind.min, IntKind.max, IntKind.signed, IntKind.bits] at w2
    refine ⟨⟨a0, a1, a2.toNat, a3⟩, ?_, ?_⟩
    · have e : ((a2.toNat : Nat) : Int) = a2 := by omega
      show _ = [Value.int .i64 a0, .int .i64 a1, .int .u64 ((a2.toNat : Nat) : Int), .string a3]
      rw [e]
    · show a2.toNat < _
      omega
theorem acts_of {H : Type} {enc : TypeId × Value → H} {W : World} {spare : Nat → Bool} {held : Bool} {a : Option Addr} {l c : Nat} {d : DataW H} {p : List MemPlace}
    (h : DataW.Trod enc Try.prog W 0 spare held 22 (.slice a l c) d p) : ∃ acts : List ActD, Reads W W.heap.size 4 a l (actsV acts) ∧ (∀ x ∈ acts, x.n < 18446744073709551616) ∧ l ≤ maxLen := by
  obtain ⟨fuel, hf⟩ := h
  rcases Deep.open_slice Try.underlying22 hf with ⟨hcs, _⟩ | ⟨b, len, cap, m, n, D, Pl, hcs, _, hl, hm, hmm, _, hx⟩
  · simp [Value.cells] at hcs
    obtain ⟨rfl, rfl, rfl⟩ := hcs
    exact ⟨[], Reads.none_, by simp, Nat.zero_le _⟩
  · simp [Value.cells] at hcs
    obtain ⟨rfl, rfl, rfl⟩ := hcs
    have hlm : l ≤ m := by rw [hmm]; split <;> omega
    rw [show Try.prog.cellsOf 30 = 4 by kernel_rfl] at hx
    have each : ∀ i, i < l → ∃ q : ActD, (∀ j u, q.cells[j]? = some u → W.cell? (b.add (i * 4 + j)) = some u) ∧ q.n < 18446744073709551616 := by
      intro i hi
      obtain ⟨cs', h1, h2⟩ := hx i (by omega)
      obtain ⟨_, hlen, hcell⟩ := World.cells?_some h1
      obtain ⟨q, rfl, hq⟩ := act_of h2
      refine ⟨q, fun j u hu => ?_, hq⟩
      have hj : j < 4 := by have := (List.getElem?_eq_some_iff.1 hu).1; exact this
      rw [← add_of_add, hcell j hj, hu]
    obtain ⟨q, hq⟩ := Deep.choose_lt each
    have hlen : ((List.range l).map q).length = l := by simp
    refine ⟨(List.range l).map q, ⟨by rw [actsV_len, hlen]; omega, fun hp => ⟨b, rfl, ?_, fun j u hu => ?_⟩⟩, fun x hx => ?_, by omega⟩
    · have := (hq 0 hp).1 0 _ rfl
      have h2 := World.block_lt_of_cell? W _ this
      rwa [block_of_add] at h2
    · have hjl : j < (actsV ((List.range l).map q)).length := (List.getElem?_eq_some_iff.1 hu).1
      rw [actsV_len, hlen] at hjl
      have hk : j / 4 < ((List.range l).map q).length := by rw [hlen]; omega
      have e := actsV_at hk (j % 4) (by omega)
      have ej : j / 4 * 4 + j % 4 = j := by omega
      rw [ej, hu] at e
      have := (hq (j / 4) (by rw [hlen] at hk; exact hk)).1 (j % 4) u (by simpa using e.symm)
      rwa [ej] at this
    · obtain ⟨i, hi, rfl⟩ := List.mem_map.1 hx
      exact (hq i (List.mem_range.1 hi)).2
end Go.Proofs.Ytknnadihmodnfaa.Lit
