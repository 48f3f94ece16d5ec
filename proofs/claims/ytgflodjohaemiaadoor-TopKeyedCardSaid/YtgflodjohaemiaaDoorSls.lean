/-
  SLICES OF WHATEVER STRUCTS, read as lists; and opened where they came in.
-/
import Derived.Test.YtgflodjohaemiaaDoorArm
import Derived.Deep.Slices
import Derived.OpenShut
namespace Go.Proofs.YtgflodjohaemiaaDoor.Sl
open Go.ChangeShapes Go.WideShapes Go.ChangeAt Go.RowKit
open Go.Proofs.YtgflodjohaemiaaDoor.Wd
set_option linter.unusedVariables false
section
variable {α : Type} {f : α → Array Value} {sz : Nat}
def flat (f : α → Array Value) : List α → List Value
  | [] => []
  | a :: l => (f a).toList ++ flat f l
theorem flat_len (hf : ∀ a, (f a).size = sz) (l : List α) : (flat f l).length = l.length * sz := by
  induction l with
  | nil => simp [flat]
  | cons a l ih => rw [flat, List.length_append, ih, Array.length_toList, hf, List.length_cons, Nat.succ_mul, Nat.add_comm]
theorem flat_at (hf : ∀ a, (f a).size = sz) (d : α) : ∀ (l : List α) (k j : Nat), k < l.length → j < sz → (flat f l)[k * sz + j]? = (f (l.getD k d))[j]?
  | [], k, j, h, _ => absurd h (Nat.not_lt_zero _)
  | m :: t, 0, j, _, hj => by
    rw [flat, Nat.zero_mul, Nat.zero_add, List.getElem?_append_left (by rw [Array.length_toList, hf]; exact hj), Array.getElem?_toList]; rfl
  | m :: t, k + 1, j, h, hj => by
    rw [flat, List.getElem?_append_right (by rw [Array.length_toList, hf, Nat.succ_mul]; omega), Array.length_toList, hf]
    rw [show (k + 1) * sz + j - sz = k * sz + j by rw [Nat.succ_mul]; omega]
    exact flat_at hf d t k j (by simpa using h) hj
theorem flat_append (l m : List α) : flat f (l ++ m) = flat f l ++ flat f m := by
  induction l with
  | nil => rfl
  | cons a l ih => rw [List.cons_append, flat, flat, ih, List.append_assoc]
theorem flat_one (a : α) : flat f [a] = (f a).toList := by rw [flat, flat, List.append_nil]
theorem flat_cells (h1 : ∀ a, (f a).all (·.oneCell') = true) (l : List α) : ∀ u ∈ flat f l, u.oneCell' = true := by
  induction l with
  | nil => intro u hu; cases hu
  | cons a l ih =>
    intro u hu
    rw [flat] at hu
    rcases List.mem_append.1 hu with g | g
    · exact (Array.all_eq_true_iff_forall_mem.1 (h1 a)) u (by simpa using g)
    · exact ih u g
/-- a slice of structs that reads as a list -/
structure Sls (f : α → Array Value) (sz : Nat) (w : World) (B : Nat) (A : Option Addr) (n : Nat) (L : List α) : Prop where
  len : L.length = n
  r : Reads w B sz A n (flat f L)
variable {w w' : World} {B B' n : Nat} {A : Option Addr} {L : List α}
theorem Sls.below (h : Sls f sz w B A n L) (hb : Below B w w') : Sls f sz w' B A n L := ⟨h.len, h.r.below hb⟩
theorem Sls.more (h : Sls f sz w B A n L) (hb : B ≤ B') : Sls f sz w B' A n L := ⟨h.len, h.r.more hb⟩
theorem Sls.none_ : Sls f sz w B none 0 ([] : List α) := ⟨rfl, Reads.none_⟩
theorem Sls.row (h : Sls f sz w B A n L) (hf : ∀ a, (f a).size = sz) (d : α) {k : Nat} (hk : k < n) : ∃ ad, A = some ad ∧ Row w B (ad.add (k * sz)) (f (L.getD k d)) := by
  obtain ⟨ad, rfl, hb, hc⟩ := h.r.2 (by omega)
  refine ⟨ad, rfl, by rw [block_of_add]; exact hb, fun j v hv => ?_⟩
  rw [add_of_add]
  have hj : j < sz := by
    rcases Nat.lt_or_ge j sz with g | g
    · exact g
    · rw [Array.getElem?_eq_none (by rw [hf]; exact g)] at hv; cases hv
  refine hc _ _ ?_
  rw [flat_at hf d L k j (by rw [h.len]; omega) hj]; exact hv
theorem Sls.of_blk {g : Nat} {t : TypeId} {cs : Array Value} (hf : ∀ a, (f a).size = sz) (x : Blk w g t cs) (h : cs.toList = flat f L) : Sls f sz w w.heap.size (some ⟨g, 0, none⟩) L.length L := by
  refine ⟨rfl, flat_len hf L, fun hp => ⟨⟨g, 0, none⟩, rfl, x.lt, fun j u hu => ?_⟩⟩
  rw [show (⟨g, 0, none⟩ : Addr).add j = ⟨g, j, none⟩ by unfold Addr.add; split <;> simp_all, x.cell, ← hu, ← h, Array.getElem?_toList]
theorem Sls.of_own {base : Nat} {e : TypeId} {c : Nat} (hl : L.length = n) (h : w.ownsRow base e sz (.slice A n c) n (flat f L)) : Sls f sz w w.heap.size A n L := ⟨hl, Reads.of_own h⟩
theorem getD_take {L : List α} {k : Nat} (d : α) (h : k < L.length) : L.take (k + 1) = L.take k ++ [L.getD k d] := by
  rw [List.take_succ_eq_append_getElem h]; congr 2
  rw [List.getD_eq_getElem?_getD, List.getElem?_eq_getElem h]; rfl
theorem getD_mem {L : List α} {k : Nat} (d : α) (h : k < L.length) : L.getD k d ∈ L := by
  rw [List.getD_eq_getElem?_getD, List.getElem?_eq_getElem h]; exact List.getElem_mem h
theorem getD_at {L : List α} {k : Nat} (d : α) (h : k < L.length) : L[k]? = some (L.getD k d) := by
  rw [List.getD_eq_getElem?_getD, List.getElem?_eq_getElem h]; rfl
theorem add_0 (p : Addr) : p.add 0 = p := by unfold Addr.add; simp
theorem add_pos (p : Addr) {j : Nat} (h : 0 < j) : p.add j = ⟨p.block, p.off + j, none⟩ ∨ p.add j = p.add j := .inr rfl
theorem row_c0 {p : Addr} {cs : Array Value} (h : Row w B p cs) {v : Value} (hv : cs[0]? = some v) : w.cell? p = some v := by
  have := h.2 0 v hv; rwa [add_0] at this
theorem row_cj {p : Addr} {cs : Array Value} (h : Row w B p cs) (j : Nat) (hj : j ≠ 0) {v : Value} (hv : cs[j]? = some v) : w.cell? ⟨p.block, p.off + j, none⟩ = some v := by
  have := h.2 j v hv; unfold Addr.add at this; rwa [if_neg hj] at this
/-- the first cell of an element, and others, at their addresses -/
theorem row_cell {p : Addr} {cs : Array Value} (h : Row w B p cs) (j : Nat) (v : Value) (hv : cs[j]? = some v) : w.cell? (p.add j) = some v := h.2 j v hv
theorem row_form {m : Nat} {p : Addr} {cs : Array Value} (hm : 0 < m) (h : Row w B (p.add m) cs) : Row w B ⟨p.block, p.off + m, none⟩ cs := by
  unfold Addr.add at h; rwa [if_neg (by omega)] at h
theorem row_0 {p : Addr} {cs : Array Value} (h : Row w B (p.add (0 * sz)) cs) : Row w B p cs := by
  rwa [show p.add (0 * sz) = p by unfold Addr.add; simp] at h
end
theorem wp_store_g {P : Program} {o : Oper} {a : Act} {w : World} {K : Act → World → Prop} {Q : Exit → Act → World → Prop} (ty : TypeId) (x y : Operand) (ho : o.op = .store ty x y) (hd : o.dst = none)
    (g k : Nat) (cells new : Array Value) (hx : a.eval x = .pointer (some ⟨g, k, none⟩)) (hy : a.eval y = .agg cells) (t : TypeId) (old : Array Value) (hg : Blk w g t old)
    (hl : k + cells.size ≤ old.size) (hi : (P.info? ty).map (·.size) = some cells.size) (h1 : cells.all (·.oneCell') = true) (hn : (old.toList.take k ++ cells.toList ++ old.toList.drop (k + cells.size)).toArray = new)
    (h : K (a.put o.dst undef) (w.setRow g new)) : o.wp P a w K Q := by
  have := run_storeCells_at (P := P) g k t cells.toList 0 old w hg (by simpa using hl) (fun v hv => (Array.all_eq_true_iff_forall_mem.1 h1) v (by simpa using hv))
  simp only [Nat.add_zero, Array.length_toList] at this
  rw [hn] at this
  have hs : (storeVar ty ⟨g, k, none⟩ (.agg cells)).run P w = .ok () (w.setRow g new) := by
    cases hq : P.info? ty with
    | none => simp [hq] at hi
    | some i =>
      have hsz : cells.size = i.size := by simp [hq] at hi; omega
      simp [storeVar, sizeOf, typeInfo, hq, Value.cells, hsz, this]
  unfold Oper.wp execOp
  simp only [ho, hx, hy, Instr.storeAt, Instr.sureAddr, Sem.run_bind, Sem.run_pure, Result.andThen_ok, hs]
  exact h
section
variable {H : Type} {enc : TypeId × Value → H} {P : Program} {α : Type} {f : α → Array Value} {sz : Nat}
theorem sls_cells [Inhabited α] {w : World} {spare : Nat → Bool} {held : Bool} {fuel : Nat} {cs : List Value} {x : DataW H × List MemPlace} (hf : ∀ a, (f a).size = sz) (hsz : 0 < sz) (Q : α → Prop) {t e : TypeId}
    (ht : P.underlying t = some (.slice e)) (he : P.cellsOf e = sz)
    (hel : ∀ {fuel : Nat} {cs : List Value} {x : DataW H × List MemPlace}, DataW.trod enc P w 0 spare held fuel e cs = some x → ∃ r : α, cs = (f r).toList ∧ Q r)
    (h : DataW.trod enc P w 0 spare held fuel t cs = some x) :
    ∃ (A : Option Addr) (n c : Nat) (l : List α), cs = [.slice A n c] ∧ Sls f sz w w.heap.size A n l ∧ (∀ r ∈ l, Q r) ∧ n ≤ maxLen ∧ n ≤ c := by
  rcases Deep.open_slice ht h with ⟨rfl, _⟩ | ⟨a, len, cap, m, n, D, Pl, rfl, _, hl, hm, hmm, _, hx⟩
  · exact ⟨none, 0, 0, [], rfl, Sls.none_, fun r hr => (by cases hr), Nat.zero_le _, Nat.le_refl _⟩
  · have hlm : len ≤ m := by rw [hmm]; split <;> omega
    rw [he] at hx
    obtain ⟨g, hg⟩ := Deep.choose_lt (α := α) (n := len) (p := fun i r => Q r ∧ ∀ j, j < sz → w.cell? (a.add (i * sz + j)) = (f r)[j]?) (fun i hi => by
      obtain ⟨cs', h1, h2⟩ := hx i (by omega)
      obtain ⟨r, rfl, hq⟩ := hel h2
      obtain ⟨_, _, hc⟩ := World.cells?_some h1
      refine ⟨r, hq, fun j hj => ?_⟩
      have := hc j hj
      rw [Wd.add_of_add] at this
      rw [this, Array.getElem?_toList])
    have hlen : ((List.range len).map g).length = len := by simp
    refine ⟨some a, len, cap, (List.range len).map g, rfl, ⟨hlen, ⟨by rw [flat_len hf, hlen], fun hp => ⟨a, rfl, ?_, fun j u hu => ?_⟩⟩⟩, fun r hr => ?_, by omega, by omega⟩
    · have h0 : 0 < (f (g 0)).size := by rw [hf]; exact hsz
      have := (hg 0 hp).2 0 hsz
      rw [Array.getElem?_eq_getElem h0] at this
      have := World.block_lt_of_cell? w _ this
      rwa [Wd.block_of_add] at this
    · have hj : j < (flat f ((List.range len).map g)).length := by
        rcases Nat.lt_or_ge j (flat f ((List.range len).map g)).length with q | q
        · exact q
        · rw [List.getElem?_eq_none q] at hu; cases hu
      rw [flat_len hf, hlen] at hj
      have e : j / sz * sz + j % sz = j := by rw [Nat.mul_comm]; exact Nat.div_add_mod j sz
      have hk : j / sz < len := Nat.div_lt_of_lt_mul (by rw [Nat.mul_comm]; exact hj)
      have hm : j % sz < sz := Nat.mod_lt _ hsz
      have hu' := hu
      rw [← e, flat_at hf (default : α) _ _ _ (by rw [hlen]; exact hk) hm] at hu'
      have hgd : ((List.range len).map g).getD (j / sz) default = g (j / sz) := by
        rw [List.getD_eq_getElem?_getD, List.getElem?_eq_getElem (by rw [hlen]; exact hk)]; simp
      rw [hgd] at hu'
      have := (hg _ hk).2 (j % sz) hm
      rw [e] at this
      rw [this, hu']
    · obtain ⟨i, hi, rfl⟩ := List.mem_map.1 hr
      exact (hg i (by simpa using hi)).1
end
end Go.Proofs.YtgflodjohaemiaaDoor.Sl
