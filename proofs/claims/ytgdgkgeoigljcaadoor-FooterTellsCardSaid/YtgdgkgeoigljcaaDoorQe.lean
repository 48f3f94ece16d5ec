/-
  RECORDS: rows of cells, and two records compared.
-/
import Derived.Test.YtgdgkgeoigljcaaDoorQc
import Derived.Laws.CopyRow
import Derived.Laws.CopyOwn
import Derived.Deep.WholeRow
import Derived.StillTailTactics
import Derived.Deep.RegionWith
namespace Go.Proofs.YtgdgkgeoigljcaaDoor.Rec
open Go.ChangeShapes Go.WideShapes Go.ChangeAt Go.RowKit
open Go.Proofs.YtgdgkgeoigljcaaDoor
open Go.Proofs.YtgdgkgeoigljcaaDoor.Wd
open Go.Proofs.YtgdgkgeoigljcaaDoor.Civ (Tab Inv)
set_option linter.unusedVariables false
def St.nil : St := ⟨0, 0, 0, 0, 0, 0, 0, 0⟩
abbrev z19 : Array Value := #[.int .i32 0, .int .i32 0, .int .i32 0, .int .u16 0, .int .u16 0, .int .u16 0, .int .u16 0, .int .u16 0, .int .u16 0, .int .u16 0, .int .u16 0, .int .u16 0, .int .u16 0, .int .u16 0, .int .u16 0, .int .u16 0, .int .u16 0, .int .u16 0, .int .u16 0]
theorem results_zero {fn : Func} {p q : Tmp} (h : fn.results = #[.cell p 26, .tmp q]) (tmps : Array Value) (w : World) (g : Nat) (t : TypeId) (cs : Array Value) (v : Value)
    (hp : tmps.getD p undef = .pointer (some ⟨g, 0, none⟩)) (hq : tmps.getD q undef = v) (hg : w.heap[g]? = some (.cells cs t (0, 0))) (hs : cs.size = 19) :
    (results fn tmps).run Tryd.prog w = .ok (.tuple #[.agg cs, v]) w := by
  have hp' : tmps[p]?.getD undef = .pointer (some ⟨g, 0, none⟩) := by simpa using hp
  have hq' : tmps[q]?.getD undef = v := by simpa using hq
  have hi : (Tryd.prog.info? 26).map (·.size) = some cs.size := by rw [hs]; kernel_rfl
  simp [results, h, hp', hq', asAddr, run_loadVar_row w g t 26 cs (0, 0) _ hg Tryd.underlying26 rfl hi]
theorem Blk.row {w : World} {g : Nat} {t : TypeId} {cs : Array Value} (h : Blk w g t cs) (ds : Array Value) : Blk (w.setRow g ds) g t ds := setRow_heap w g cs ds t (0, 0) h
theorem Blk.rowFar {w : World} {g g' : Nat} {t : TypeId} {cs : Array Value} (h : Blk w g t cs) (hn : g ≠ g') (ds : Array Value) : Blk (w.setRow g' ds) g t cs := (setRow_other w g' g ds hn).trans h
theorem below_row {B : Nat} {w w' : World} (h : Below B w w') {g : Nat} (hg : B ≤ g) (ds : Array Value) : Below B w (w'.setRow g ds) :=
  Go.below_setRow h hg ds
theorem wpList_store_seg {P : Program} {ops : Array Oper} {rest : List Oper} {o : Oper} {a : Act} {w : World} {Q : Exit → Act → World → Prop} (hgd : o.guard = none) (ty : TypeId) (x y : Operand) (ho : o.op = .store ty x y) (hd : o.dst = none)
    (g k : Nat) (cells new : Array Value) (hx : a.eval x = .pointer (some ⟨g, k, none⟩)) (hy : a.eval y = .agg cells) (t : TypeId) (old : Array Value) (hg : Blk w g t old)
    (hl : k + cells.size ≤ old.size) (hi : (P.info? ty).map (·.size) = some cells.size) (h1 : cells.all (·.oneCell') = true) (hn : (old.toList.take k ++ cells.toList ++ old.toList.drop (k + cells.size)).toArray = new)
    (h : wpList P ops Q rest a (w.setRow g new)) : wpList P ops Q (o :: rest) a w := by
  refine wpList_plain hgd fun _ hK => ?_
  have := run_storeCells_at (P := P) g k t cells.toList 0 old w hg (by simpa using hl) (fun v hv => (Array.all_eq_true_iff_forall_mem.1 h1) v (by simpa using hv))
  simp only [Nat.add_zero, Array.length_toList] at this
  rw [hn] at this
  have hs : (storeVar ty ⟨g, k, none⟩ (.agg cells)).run P w = .ok () (w.setRow g new) := by
    cases hq : P.info? ty with
    | none => simp [hq] at hi
    | some i =>
      have hsz : cells.size = i.size := by simp [hq] at hi; omega
      simp [storeVar, sizeOf, typeInfo, hq, Value.cells, hsz, this]
  unfold Oper.wp execOp
  simp only [ho, hx, hy, Instr.storeAt, Instr.sureAddr, Sem.run_bind, Sem.run_pure, Result.andThen_ok, hs]
  exact hK _ _ (by rw [hd]; exact h)
abbrev sA (p : St) : Array Value := #[.int .u16 p.y, .int .u16 p.m, .int .u16 p.v, .int .u16 p.d, .int .u16 p.h, .int .u16 p.i, .int .u16 p.s, .int .u16 p.u]
theorem sz1 (w : World) (o : Obj) {n : Nat} (h : w.heap.size = n) : (w.alloc o).heap.size = n + 1 := by subst h; show (w.heap.push _).size = _; exact Array.size_push _
theorem near_iff {z : Int} (h : near z = true) : -86400 ≤ z ∧ z ≤ 86400 := by unfold near at h; simpa using h
def eqS (x z : St) : Bool := x.y == z.y && (x.m == z.m && (x.v == z.v && (x.d == z.d && (x.h == z.h && (x.i == z.i && (x.s == z.s && x.u == z.u))))))
theorem eqS_iff {x z : St} : eqS x z = true ↔ x = z := by
  obtain ⟨a, b, c, d, e, f, g, h⟩ := x
  obtain ⟨a', b', c', d', e', f', g', h'⟩ := z
  simp [eqS]
theorem eqS_zero (x : St) : eqS x St.nil = x.zero := zero_eq x
theorem eqIn_st (d : Nat) (x z : St) (w : World) : (Op.equalIn (d + 2) 24 (.agg (sA x)) (.agg (sA z))).run Tryd.prog w = .ok (eqS x z) w := by
  rw [run_equalIn_agg w (d + 1) _ (sA x) (sA z) (by kernel_rfl) (by kernel_rfl)]
  go_simp
  unfold eqS
  repeat' split
  all_goals simp [*]
def eqR (b c d : Int) (p q : St) (b' c' d' : Int) (p' q' : St) : Bool := b == b' && (c == c' && (d == d' && (eqS p p' && eqS q q')))
theorem eqR_iff {b c d b' c' d' : Int} {p q p' q' : St} : eqR b c d p q b' c' d' p' q' = true ↔ b = b' ∧ c = c' ∧ d = d' ∧ p = p' ∧ q = q' := by
  simp [eqR, eqS_iff]
set_option maxRecDepth 20000 in
theorem eqIn_rc (n : Nat) (b c d b' c' d' : Int) (p q p' q' : St) (w : World) : (Op.equalIn (n + 3) 26 (rcV b c d p q) (rcV b' c' d' p' q')).run Tryd.prog w = .ok (eqR b c d p q b' c' d' p' q') w := by
  have e1 := eqIn_st n p p'
  have e2 := eqIn_st n q q'
  rw [run_equalIn_agg w (n + 2) _ (rcA b c d p q) (rcA b' c' d' p' q') (by kernel_rfl) (by kernel_rfl)]
  go_simp
  unfold eqR
  cases eqS p p' <;> cases eqS q q' <;> by_cases h1 : b = b' <;> by_cases h2 : c = c' <;> by_cases h3 : d = d' <;> simp [h1, h2, h3]
theorem eq_rc (b c d b' c' d' : Int) (p q p' q' : St) (w : World) : (binOp .eql 26 (rcV b c d p q) (rcV b' c' d' p' q')).run Tryd.prog w = .ok (.bool (eqR b c d p q b' c' d' p' q')) w := by
  rw [run_eql_struct, eqIn_rc 9997]; rfl
theorem eq_stt (x z : St) (w : World) : (binOp .eql 24 (.agg (sA x)) (.agg (sA z))).run Tryd.prog w = .ok (.bool (eqS x z)) w := by
  rw [run_eql_struct, eqIn_st 9998]; rfl
theorem neq_rc (b c d b' c' d' : Int) (p q p' q' : St) (w : World) : (binOp .neq 26 (rcV b c d p q) (rcV b' c' d' p' q')).run Tryd.prog w = .ok (.bool (!eqR b c d p q b' c' d' p' q')) w := by
  rw [run_neq_struct, eqIn_rc 9997]; rfl
theorem neq_stt (x z : St) (w : World) : (binOp .neq 24 (.agg (sA x)) (.agg (sA z))).run Tryd.prog w = .ok (.bool (!eqS x z)) w := by
  rw [run_neq_struct, eqIn_st 9998]; rfl
theorem row_new (w : World) (t : TypeId) (old cs : Array Value) : (w.alloc (.cells old t)).setRow w.heap.size cs = w.alloc (.cells cs t) := by
  unfold World.setRow World.alloc
  congr 1
  refine Array.ext_getElem? fun i => ?_
  rw [Array.getElem?_modify, Array.getElem?_push, Array.getElem?_push]
  by_cases h : i = w.heap.size
  · subst h; simp
  · simp [h, Ne.symm h]
theorem wpList_store_g {P : Program} {ops : Array Oper} {rest : List Oper} {o : Oper} {a : Act} {w : World} {Q : Exit → Act → World → Prop} (hw : Region.wanted o (yielded ops a.tmps) = true) (ty : TypeId) (x y : Operand) (ho : o.op = .store ty x y) (hd : o.dst = none)
    (g k : Nat) (cells new : Array Value) (hx : a.eval x = .pointer (some ⟨g, k, none⟩)) (hy : a.eval y = .agg cells) (t : TypeId) (old : Array Value) (hg : Blk w g t old)
    (hl : k + cells.size ≤ old.size) (hi : (P.info? ty).map (·.size) = some cells.size) (h1 : cells.all (·.oneCell') = true) (hn : (old.toList.take k ++ cells.toList ++ old.toList.drop (k + cells.size)).toArray = new)
    (h : wpList P ops Q rest a (w.setRow g new)) : wpList P ops Q (o :: rest) a w := by
  refine Go.BigFrame.wpList_want hw fun _ hK => ?_
  have := run_storeCells_at (P := P) g k t cells.toList 0 old w hg (by simpa using hl) (fun v hv => (Array.all_eq_true_iff_forall_mem.1 h1) v (by simpa using hv))
  simp only [Nat.add_zero, Array.length_toList] at this
  rw [hn] at this
  have hs : (storeVar ty ⟨g, k, none⟩ (.agg cells)).run P w = .ok () (w.setRow g new) := by
    cases hq : P.info? ty with
    | none => simp [hq] at hi
    | some i =>
      have hsz : cells.size = i.size := by simp [hq] at hi; omega
      simp [storeVar, sizeOf, typeInfo, hq, Value.cells, hsz, this]
  unfold Oper.wp execOp
  simp only [ho, hx, hy, Instr.storeAt, Instr.sureAddr, Sem.run_bind, Sem.run_pure, Result.andThen_ok, hs]
  exact hK _ _ (by rw [hd]; exact h)
theorem wpList_store_new {P : Program} {ops : Array Oper} {rest : List Oper} {o : Oper} {a : Act} {w : World} {Q : Exit → Act → World → Prop} (hwt : Region.wanted o (yielded ops a.tmps) = true) (ty : TypeId) (x y : Operand) (ho : o.op = .store ty x y) (hd : o.dst = none)
    (g : Nat) (cells : Array Value) (hx : a.eval x = .pointer (some ⟨g, 0, none⟩)) (hy : a.eval y = .agg cells) (t : TypeId) (old : Array Value) (w0 : World) (hw : w = w0.alloc (.cells old t)) (hg : g = w0.heap.size)
    (hl : cells.size = old.size) (hi : (P.info? ty).map (·.size) = some cells.size) (h1 : cells.all (·.oneCell') = true)
    (h : wpList P ops Q rest a (w0.alloc (.cells cells t))) : wpList P ops Q (o :: rest) a w := by
  subst hw hg
  refine wpList_store_g hwt ty x y ho hd w0.heap.size 0 cells cells hx hy t old (Blk.new w0 t old) (by omega) hi h1 ?_ ?_
  · simp only [List.take_zero, List.nil_append, Nat.zero_add]
    rw [List.drop_of_length_le (by simp [hl])]
    simp
  · rw [row_new]; exact h
theorem wpList_row_g {P : Program} {ops : Array Oper} {rest : List Oper} {o : Oper} {a : Act} {w : World} {Q : Exit → Act → World → Prop} (hw : Region.wanted o (yielded ops a.tmps) = true) (ty : TypeId) (x : Operand) (ho : o.op = .load ty x)
    (g : Nat) (hx : a.eval x = .pointer (some ⟨g, 0, none⟩)) (t : TypeId) (cs : Array Value) (fr : Nat × Nat) (d : TypeDesc) (hg : w.heap[g]? = some (.cells cs t fr))
    (hu : P.underlying ty = some d) (hd : (match d with | .struct _ | .array _ _ => true | _ => false) = true) (hi : (P.info? ty).map (·.size) = some cs.size)
    (h : wpList P ops Q rest (a.put o.dst (.agg cs)) w) : wpList P ops Q (o :: rest) a w :=
  Go.BigFrame.wpList_want hw fun _ hK => wp_load_row ty x ho g hx t cs fr d hg hu hd hi (hK _ _ h)
theorem run_loadVar_seg {P : Program} (w : World) (g k : Nat) (t ty : TypeId) (cs new : Array Value) (fr : Nat × Nat) (d : TypeDesc) (hg : w.heap[g]? = some (.cells cs t fr))
    (hu : P.underlying ty = some d) (hd : (match d with | .struct _ | .array _ _ => true | _ => false) = true) (hi : (P.info? ty).map (·.size) = some new.size) (hn : (cs.toList.drop k).take new.size = new.toList) :
    (loadVar ty ⟨g, k, none⟩).run P w = .ok (.agg new) w := by
  have hl : (loadCells ⟨g, k, none⟩ new.toList.length).run P w = .ok new.toList.toArray w :=
    run_loadCells_list (P := P) w ⟨g, k, none⟩ new.toList (fun j v hv => by
      have hadd : (⟨g, k, none⟩ : Addr).add j = ⟨g, k + j, none⟩ := by unfold Addr.add; split <;> simp_all
      rw [hadd, cell_of_row w g (k + j) cs t fr hg]
      rw [← hn, List.getElem?_take] at hv
      split at hv
      · rw [List.getElem?_drop] at hv; simpa using hv
      · cases hv)
  cases hq : P.info? ty with
  | none => simp [hq] at hi
  | some i =>
    have hs : i.size = new.size := by simpa [hq] using hi
    have hagg : (isAgg ty).run P w = .ok true w := by
      unfold isAgg
      rw [Sem.run_bind, run_underlying hu w]
      simp only [Result.andThen_ok]
      revert hd
      cases d <;> simp
    simp only [Array.length_toList, Array.toArray_toList] at hl
    simp [loadVar, Sem.run_bind, hagg, sizeOf, typeInfo, hq, hs, hl]
theorem wpList_seg_g {P : Program} {ops : Array Oper} {rest : List Oper} {o : Oper} {a : Act} {w : World} {Q : Exit → Act → World → Prop} (hw : Region.wanted o (yielded ops a.tmps) = true) (ty : TypeId) (x : Operand) (ho : o.op = .load ty x)
    (g k : Nat) (new : Array Value) (hx : a.eval x = .pointer (some ⟨g, k, none⟩)) (t : TypeId) (cs : Array Value) (fr : Nat × Nat) (d : TypeDesc) (hg : w.heap[g]? = some (.cells cs t fr))
    (hu : P.underlying ty = some d) (hd : (match d with | .struct _ | .array _ _ => true | _ => false) = true) (hi : (P.info? ty).map (·.size) = some new.size) (hn : (cs.toList.drop k).take new.size = new.toList)
    (h : wpList P ops Q rest (a.put o.dst (.agg new)) w) : wpList P ops Q (o :: rest) a w :=
  Go.BigFrame.wpList_want hw fun _ hK => by
    unfold Oper.wp execOp
    simp only [ho, hx, Instr.loadAt, Instr.sureAddr, Sem.run_bind, Sem.run_pure, Result.andThen_ok, run_loadVar_seg w g k t ty cs new fr d hg hu hd hi hn]
    exact hK _ _ h
theorem blk_at (w : World) (t : TypeId) (cs : Array Value) {n : Nat} (h : w.heap.size = n) : Blk (w.alloc (.cells cs t)) n t cs := by subst h; exact Blk.new w t cs
end Go.Proofs.YtgdgkgeoigljcaaDoor.Rec
