/-
  MAPS WITH TEXTS FOR KEYS, OF WHATEVER ELEMENTS: what a look-up answers, what a store leaves; as plain functions.
-/
import Derived.Test.YtgflodjohaemiaaDoorArm
import Derived.Maps.OwnSet
import Derived.Maps.OwnIn
import Derived.WideKeyArgs2
namespace Go.Proofs.YtgflodjohaemiaaDoor.Mp
open Go.ChangeShapes Go.WideShapes Go.ChangeAt Go.RowKit Go.Maps
open Go.Proofs.YtgflodjohaemiaaDoor.Wd
set_option linter.unusedVariables false
abbrev Key := List UInt8
/-- each element is held as it is -/
def hR (v : Value) : Option (DataW Value × List MemPlace) := some (.held v, [])
abbrev kS (l : Key) : Lit := .string l
def mput (m : Key → Option Value) (s : Key) (v : Value) : Key → Option Value := fun x => if x = s then some v else m x
theorem mput_same (m : Key → Option Value) (s : Key) (v : Value) : mput m s v s = some v := if_pos rfl
theorem mput_other {m : Key → Option Value} {s x : Key} {v : Value} (h : x ≠ s) : mput m s v x = m x := if_neg h
/-- block b is a map of at most n entries that holds just what m says -/
def Smap (w : World) (P : Program) (k : TypeId) (b n : Nat) (m : Key → Option Value) : Prop :=
  ∃ D, w.ownsMap P k hR b n D ∧ ∀ l : Key, (m l = none ∧ Maps.has D (kS l) = false) ∨ (∃ v, m l = some v ∧ Maps.has D (kS l) = true ∧ ∀ d, D.atKey (kS l) d = .held v)
section
variable {w w' : World} {P : Program} {k : TypeId} {b n : Nat} {m : Key → Option Value}
theorem Smap.lt (h : Smap w P k b n m) : b < w.heap.size := by obtain ⟨D, h, _⟩ := h; exact h.lt
theorem Smap.kept {row : Option Nat} (h : Smap w P k b n m) (hg : w.grownBy w' row) (hne : some b ≠ row) : Smap w' P k b n m := by
  obtain ⟨D, h, r⟩ := h; exact ⟨D, h.kept hg hne, r⟩
theorem Smap.alloc (h : Smap w P k b n m) (o : Obj) : Smap (w.alloc o) P k b n m := h.kept (World.grownBy_alloc w o none) (by simp)
theorem Smap.drew (h : Smap w P k b n m) : Smap w.drew P k b n m := h
theorem Smap.below {B : Nat} (h : Smap w P k b n m) (hb : Below B w w') (hB : b < B) : Smap w' P k b n m := by
  obtain ⟨D, ⟨es, clock, h1, r1⟩, r⟩ := h
  exact ⟨D, ⟨es, clock, (hb.block b hB).trans h1, r1⟩, r⟩
theorem Smap.of_block (h : Smap w P k b n m) (hb : w'.heap[b]? = w.heap[b]?) : Smap w' P k b n m := by
  obtain ⟨D, ⟨es, clock, h1, r1⟩, r⟩ := h
  exact ⟨D, ⟨es, clock, hb.trans h1, r1⟩, r⟩
theorem Smap.setCell (h : Smap w P k b n m) {a : Addr} (ha : b ≠ a.block) (u : Value) : Smap (w.setCell a u) P k b n m := by
  obtain ⟨D, h, r⟩ := h; exact ⟨D, h.setCell ha u, r⟩
theorem Smap.mono (h : Smap w P k b n m) {n' : Nat} (hn : n ≤ n') : Smap w P k b n' m := by
  obtain ⟨D, h, r⟩ := h; exact ⟨D, h.mono hn, r⟩
theorem Smap.made (w : World) (P : Program) (k : TypeId) : Smap (w.alloc (.map #[] 0)) P k w.heap.size 0 (fun _ => none) :=
  ⟨_, World.ownsMap_made w P k hR, fun _ => .inl ⟨rfl, rfl⟩⟩
theorem Smap.cells_ne (h : Smap w P k b n m) {g : Nat} {t : TypeId} {cs : Array Value} (x : Blk w g t cs) : b ≠ g := by
  rintro rfl
  obtain ⟨D, ⟨es, clock, h1, _⟩, _⟩ := h
  unfold Blk at x
  rw [h1] at x; cases x
theorem Smap.look {t e : TypeId} {z : Value} (h : Smap w P k b n m) (hk : P.underlying k = some .string) (ht : P.underlying t = some (.map k e)) (hz : (zeroValue e).run P w = .ok z w)
    {s : ByteArray} (hs : s.size ≤ maxLen) : (Instr.lookup t (.map (some b)) (.string s) true).run P w = .ok (.tuple #[(m s.data.toList).getD z, .bool (m s.data.toList).isSome]) w := by
  obtain ⟨D, h, r⟩ := h
  obtain ⟨v, ps, hrun, hv⟩ := h.look_ok (string_keyed hk) ht (z := z) hz (zd := .held z) (zp := []) rfl (WideMaps.keyOf_string_mk hk hs)
  have hv' : DataW.held v = D.atKey (kS s.data.toList) (.held z) := by
    have := congrArg (Option.map Prod.fst) hv; simpa [hR] using this
  rcases r s.data.toList with ⟨h1, h2⟩ | ⟨u, h1, h2, h3⟩
  · rw [atKey_of_not_has h2] at hv'
    injection hv' with hv'
    rw [hrun, h1, h2, hv']; rfl
  · rw [h3] at hv'
    injection hv' with hv'
    rw [hrun, h1, h2, hv']; rfl
theorem Smap.store {t e : TypeId} (h : Smap w P k b n m) (hk : P.underlying k = some .string) (ht : P.underlying t = some (.map k e)) (hn : n < maxLen) {s : ByteArray} (hs : s.size ≤ maxLen) (v : Value) :
    ∃ w', (Instr.mapUpdate t (.map (some b)) (.string s) v).run P w = .ok () w' ∧ Smap w' P k b (n + 1) (mput m s.data.toList v) ∧ w.grownBy w' (some b) := by
  obtain ⟨D, h, r⟩ := h
  obtain ⟨w', hrun, h', hg⟩ := h.update (string_keyed hk) ht hn (WideMaps.keyOf_string_mk hk hs) (val := v) (d := .held v) (ps := []) rfl
  refine ⟨w', hrun, ⟨_, h', fun l => ?_⟩, hg⟩
  by_cases hl : l = s.data.toList
  · subst hl
    have hkl : WideAt.IsKeyLit (kS s.data.toList) := by simp [WideAt.IsKeyLit]
    exact .inr ⟨v, mput_same .., has_put_same h.isMap hkl _, fun d => atKey_put_same h.isMap hkl _ d⟩
  · have hne : kS l ≠ kS s.data.toList := fun e => hl (by injection e)
    rw [mput_other hl]
    rcases r l with ⟨h1, h2⟩ | ⟨u, h1, h2, h3⟩
    · exact .inl ⟨h1, by rw [has_put_other hne]; exact h2⟩
    · exact .inr ⟨u, h1, by rw [has_put_other hne]; exact h2, fun d => by rw [atKey_put_other hne]; exact h3 d⟩
end
section
variable {P : Program} (w : World) {ops : Array Oper} {rest : List Oper} {o : Oper} {a : Act} {Q : Exit → Act → World → Prop}
/-- a look-up with ok -/
theorem wpList_look (hg : o.guard = none) (x y : Operand) (t : TypeId) (hop : o.op = Op.lookup t x y true) (k e : TypeId) (hk : P.underlying k = some .string) (ht : P.underlying t = some (.map k e)) (z : Value) (hz : (zeroValue e).run P w = .ok z w)
    (b n : Nat) (m : Key → Option Value) (hm : a.eval x = .map (some b)) (h : Smap w P k b n m) (s : ByteArray) (hx : a.eval y = .string s) (hs : s.size ≤ maxLen) (v : Value) (c : Bool) (hv : (m s.data.toList).getD z = v) (hc : (m s.data.toList).isSome = c)
    (hK : wpList P ops Q rest (a.put o.dst (.tuple #[v, .bool c])) w) : wpList P ops Q (o :: rest) a w := by
  refine wpList_plain hg fun K' hK' => ?_
  have hrun := h.look hk ht hz hs
  rw [hv, hc] at hrun
  unfold Oper.wp
  simp [execOp, hop, hm, hx, hrun, Result.andThen]
  exact hK' _ _ hK
/-- a look-up with ok that finds nothing -/
theorem wpList_look_no (hg : o.guard = none) (x y : Operand) (t : TypeId) (hop : o.op = Op.lookup t x y true) (k e : TypeId) (hk : P.underlying k = some .string) (ht : P.underlying t = some (.map k e)) (z : Value) (hz : (zeroValue e).run P w = .ok z w)
    (b n : Nat) (m : Key → Option Value) (hm : a.eval x = .map (some b)) (h : Smap w P k b n m) (s : ByteArray) (hx : a.eval y = .string s) (hs : s.size ≤ maxLen) (hv : m s.data.toList = none)
    (hK : wpList P ops Q rest (a.put o.dst (.tuple #[z, .bool false])) w) : wpList P ops Q (o :: rest) a w := by
  refine wpList_plain hg fun K' hK' => ?_
  have hrun := h.look hk ht hz hs
  rw [hv] at hrun
  unfold Oper.wp
  simp [execOp, hop, hm, hx, hrun, Result.andThen]
  exact hK' _ _ hK
/-- a look-up with ok that finds v -/
theorem wpList_look_yes (hg : o.guard = none) (x y : Operand) (t : TypeId) (hop : o.op = Op.lookup t x y true) (k e : TypeId) (hk : P.underlying k = some .string) (ht : P.underlying t = some (.map k e)) (z : Value) (hz : (zeroValue e).run P w = .ok z w)
    (b n : Nat) (m : Key → Option Value) (hm : a.eval x = .map (some b)) (h : Smap w P k b n m) (s : ByteArray) (hx : a.eval y = .string s) (hs : s.size ≤ maxLen) (v : Value) (hv : m s.data.toList = some v)
    (hK : wpList P ops Q rest (a.put o.dst (.tuple #[v, .bool true])) w) : wpList P ops Q (o :: rest) a w := by
  refine wpList_plain hg fun K' hK' => ?_
  have hrun := h.look hk ht hz hs
  rw [hv] at hrun
  unfold Oper.wp
  simp [execOp, hop, hm, hx, hrun, Result.andThen]
  exact hK' _ _ hK
theorem wp_mput {K : Act → World → Prop} (x y u : Operand) (t : TypeId) (hop : o.op = Op.mapUpdate t x y u) (k e : TypeId) (hk : P.underlying k = some .string) (ht : P.underlying t = some (.map k e))
    (b n : Nat) (m : Key → Option Value) (hm : a.eval x = .map (some b)) (h : Smap w P k b n m) (hn : n < maxLen) (s : ByteArray) (hx : a.eval y = .string s) (hs : s.size ≤ maxLen) (v : Value) (hv : a.eval u = v)
    (hK : ∀ w', Smap w' P k b (n + 1) (mput m s.data.toList v) → w.grownBy w' (some b) → K (a.put o.dst undef) w') : o.wp P a w K Q := by
  obtain ⟨w', hrun, r1, r2⟩ := h.store hk ht hn hs v
  unfold Oper.wp
  simp [execOp, hop, hm, hx, hv, hrun, Result.andThen]
  exact hK w' r1 r2
/-- a store -/
theorem wpList_mput (hg : o.guard = none) (x y u : Operand) (t : TypeId) (hop : o.op = Op.mapUpdate t x y u) (k e : TypeId) (hk : P.underlying k = some .string) (ht : P.underlying t = some (.map k e))
    (b n : Nat) (m : Key → Option Value) (hm : a.eval x = .map (some b)) (h : Smap w P k b n m) (hn : n < maxLen) (s : ByteArray) (hx : a.eval y = .string s) (hs : s.size ≤ maxLen) (v : Value) (hv : a.eval u = v)
    (hK : ∀ w', Smap w' P k b (n + 1) (mput m s.data.toList v) → w.grownBy w' (some b) → wpList P ops Q rest (a.put o.dst undef) w') : wpList P ops Q (o :: rest) a w := by
  refine wpList_plain hg fun K' hK' => ?_
  obtain ⟨w', hrun, r1, r2⟩ := h.store hk ht hn hs v
  unfold Oper.wp
  simp [execOp, hop, hm, hx, hv, hrun, Result.andThen]
  exact hK' _ _ (hK w' r1 r2)
end
section
variable {F : Fence} {nF : Nat} {P : Program} (w : World) {ops : Array Oper} {rest : List Oper} {o : Oper} {a : Act} {Q : Exit → Act → World → Prop}
theorem wpListIn_mput (hg : o.guard = none) (x y u : Operand) (t : TypeId) (hop : o.op = Op.mapUpdate t x y u) (k e : TypeId) (hk : P.underlying k = some .string) (ht : P.underlying t = some (.map k e))
    (b n : Nat) (m : Key → Option Value) (hm : a.eval x = .map (some b)) (h : Smap w P k b n m) (hn : n < maxLen) (s : ByteArray) (hx : a.eval y = .string s) (hs : s.size ≤ maxLen) (v : Value) (hv : a.eval u = v)
    (hK : ∀ w', Smap w' P k b (n + 1) (mput m s.data.toList v) → w.grownBy w' (some b) → wpListIn F nF P ops Q rest (a.put o.dst undef) w') : wpListIn F nF P ops Q (o :: rest) a w := by
  refine wpListIn_plain hg fun K' hK' => ?_
  obtain ⟨w', hrun, r1, r2⟩ := h.store hk ht hn hs v
  unfold Oper.wpIn
  refine ⟨by simp [Oper.about, hop], ?_⟩
  rw [Oper.semAt_plain F _ _ (by rw [hop]; intro c hc'; cases hc')]
  simp [execOp, hop, hm, hx, hv, hrun, Result.andThen]
  exact hK' _ _ (hK w' r1 r2)
end
end Go.Proofs.YtgflodjohaemiaaDoor.Mp
