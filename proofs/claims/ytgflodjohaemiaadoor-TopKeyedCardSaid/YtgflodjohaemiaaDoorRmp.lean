/-
  MAPS WITH TWO TEXTS FOR A KEY, OF WHATEVER ELEMENTS: what a look-up answers, what a store leaves; as plain functions.
-/
import Derived.Test.YtgflodjohaemiaaDoorArm
import Derived.Maps.OwnSet
import Derived.Maps.OwnIn
import Derived.WideKeyArgs2
import Derived.DeepKeys4
import Derived.Maps.Keyed
import Derived.Test.YtgflodjohaemiaaDoorProg
namespace Go.Proofs.YtgflodjohaemiaaDoor.Mr
open Go.ChangeShapes Go.WideShapes Go.ChangeAt Go.RowKit Go.Maps
open Go.Proofs.YtgflodjohaemiaaDoor.Wd
set_option linter.unusedVariables false
abbrev Key := List UInt8 × List UInt8
/-- each element is held as it is -/
def hR (v : Value) : Option (DataW Value × List MemPlace) := some (.held v, [])
abbrev kS (l : Key) : Lit := .string (keyBytes [.string l.1, .string l.2])
abbrev rowV (a b : ByteArray) : Value := .agg #[.string a, .string b]
theorem laidOut : laidOutB Tryd.prog = true := by kernel_rfl
theorem rk : Keyed Tryd.prog 81 := Keyed.of_law (deep_law_laid laidOut (m := 2) (by omega) (of_decide_eq_true (by kernel_rfl)) (by kernel_rfl) (by kernel_rfl))
set_option maxRecDepth 20000 in
theorem row_key (a b : ByteArray) (ha : a.size ≤ maxLen) (hb : b.size ≤ maxLen) : keyOf Tryd.prog 81 (rowV a b) = some (kS (a.data.toList, b.data.toList)) := by
  have h1 : Tryd.prog.keyType 81 = true := by kernel_rfl
  have h2 : (rowV a b).formed Tryd.prog 81 = true := by kernel_rfl
  have h3 : Tryd.prog.keyLits (Tryd.prog.types.size + 1) 81 [.string a, .string b] = some [.string a.data.toList, .string b.data.toList] := by
    obtain ⟨d, hd⟩ : ∃ d, Tryd.prog.types.size = d + 1 := Nat.exists_eq_succ_of_ne_zero (Nat.pos_iff_ne_zero.1 (of_decide_eq_true (by kernel_rfl) : 0 < Tryd.prog.types.size))
    have c1 : Tryd.prog.cellsOf 81 = 2 := by kernel_rfl
    have c2 : Tryd.prog.cellsOf 9 = 1 := by kernel_rfl
    rw [hd]
    simp [Program.keyLits, Tryd.underlying81, Tryd.underlying9, c1, c2, ha, hb]
  unfold keyOf
  rw [Tryd.underlying81]
  simp only [h1, h2, Bool.and_self, if_true]
  show Option.map _ (Tryd.prog.keyLits (Tryd.prog.types.size + 1) 81 [.string a, .string b]) = _
  rw [h3]; rfl
def mput (m : Key → Option Value) (s : Key) (v : Value) : Key → Option Value := fun x => if x = s then some v else m x
set_option maxRecDepth 20000 in
theorem kS_inj {l x : Key} (h1 : l.1.length ≤ maxLen) (h2 : l.2.length ≤ maxLen) (h3 : x.1.length ≤ maxLen) (h4 : x.2.length ≤ maxLen) (h : kS l = kS x) : l = x := by
  have sz : ∀ k : List UInt8, (⟨k.toArray⟩ : ByteArray).size = k.length := fun k => rfl
  have e1 := row_key ⟨l.1.toArray⟩ ⟨l.2.toArray⟩ (by rw [sz]; exact h1) (by rw [sz]; exact h2)
  have e2 := row_key ⟨x.1.toArray⟩ ⟨x.2.toArray⟩ (by rw [sz]; exact h3) (by rw [sz]; exact h4)
  have e3 : kS (l.1.toArray.toList, l.2.toArray.toList) = kS l := rfl
  have e4 : kS (x.1.toArray.toList, x.2.toArray.toList) = kS x := rfl
  have e1' : keyOf Tryd.prog 81 (rowV ⟨l.1.toArray⟩ ⟨l.2.toArray⟩) = some (kS x) := by rw [← h]; exact e1
  have e5 := rk.inj e1' e2
  injection e5 with e5
  have e6 : (#[Value.string ⟨l.1.toArray⟩, Value.string ⟨l.2.toArray⟩] : Array Value).toList = #[Value.string ⟨x.1.toArray⟩, Value.string ⟨x.2.toArray⟩].toList := congrArg Array.toList e5
  simp at e6
  exact Prod.ext e6.1 e6.2
theorem mput_same (m : Key → Option Value) (s : Key) (v : Value) : mput m s v s = some v := if_pos rfl
theorem mput_other {m : Key → Option Value} {s x : Key} {v : Value} (h : x ≠ s) : mput m s v x = m x := if_neg h
/-- block b is a map of at most n entries that holds just what m says -/
def Rmap (w : World) (P : Program) (k : TypeId) (b n : Nat) (m : Key → Option Value) : Prop :=
  ∃ D, w.ownsMap P k hR b n D ∧ ∀ l : Key, l.1.length ≤ maxLen → l.2.length ≤ maxLen → (m l = none ∧ Maps.has D (kS l) = false) ∨ (∃ v, m l = some v ∧ Maps.has D (kS l) = true ∧ ∀ d, D.atKey (kS l) d = .held v)
section
variable {w w' : World} {P : Program} {k : TypeId} {b n : Nat} {m : Key → Option Value}
theorem Rmap.lt (h : Rmap w P k b n m) : b < w.heap.size := by obtain ⟨D, h, _⟩ := h; exact h.lt
theorem Rmap.kept {row : Option Nat} (h : Rmap w P k b n m) (hg : w.grownBy w' row) (hne : some b ≠ row) : Rmap w' P k b n m := by
  obtain ⟨D, h, r⟩ := h; exact ⟨D, h.kept hg hne, r⟩
theorem Rmap.alloc (h : Rmap w P k b n m) (o : Obj) : Rmap (w.alloc o) P k b n m := h.kept (World.grownBy_alloc w o none) (by simp)
theorem Rmap.drew (h : Rmap w P k b n m) : Rmap w.drew P k b n m := h
theorem Rmap.below {B : Nat} (h : Rmap w P k b n m) (hb : Below B w w') (hB : b < B) : Rmap w' P k b n m := by
  obtain ⟨D, ⟨es, clock, h1, r1⟩, r⟩ := h
  exact ⟨D, ⟨es, clock, (hb.block b hB).trans h1, r1⟩, r⟩
theorem Rmap.of_block (h : Rmap w P k b n m) (hb : w'.heap[b]? = w.heap[b]?) : Rmap w' P k b n m := by
  obtain ⟨D, ⟨es, clock, h1, r1⟩, r⟩ := h
  exact ⟨D, ⟨es, clock, hb.trans h1, r1⟩, r⟩
theorem Rmap.setCell (h : Rmap w P k b n m) {a : Addr} (ha : b ≠ a.block) (u : Value) : Rmap (w.setCell a u) P k b n m := by
  obtain ⟨D, h, r⟩ := h; exact ⟨D, h.setCell ha u, r⟩
theorem Rmap.mono (h : Rmap w P k b n m) {n' : Nat} (hn : n ≤ n') : Rmap w P k b n' m := by
  obtain ⟨D, h, r⟩ := h; exact ⟨D, h.mono hn, r⟩
theorem Rmap.made (w : World) (P : Program) (k : TypeId) : Rmap (w.alloc (.map #[] 0)) P k w.heap.size 0 (fun _ => none) :=
  ⟨_, World.ownsMap_made w P k hR, fun _ _ _ => .inl ⟨rfl, rfl⟩⟩
theorem Rmap.cells_ne (h : Rmap w P k b n m) {g : Nat} {t : TypeId} {cs : Array Value} (x : Blk w g t cs) : b ≠ g := by
  rintro rfl
  obtain ⟨D, ⟨es, clock, h1, _⟩, _⟩ := h
  unfold Blk at x
  rw [h1] at x; cases x
theorem Rmap.look {t e : TypeId} {z : Value} (h : Rmap w P k b n m) (Kk : Keyed P k) (ht : P.underlying t = some (.map k e)) (hz : (zeroValue e).run P w = .ok z w)
    {s : ByteArray × ByteArray} (hs : s.1.size ≤ maxLen ∧ s.2.size ≤ maxLen) (hkey : keyOf P k (rowV s.1 s.2) = some (kS (s.1.data.toList, s.2.data.toList))) : (Instr.lookup t (.map (some b)) (rowV s.1 s.2) true).run P w = .ok (.tuple #[(m (s.1.data.toList, s.2.data.toList)).getD z, .bool (m (s.1.data.toList, s.2.data.toList)).isSome]) w := by
  obtain ⟨D, h, r⟩ := h
  obtain ⟨v, ps, hrun, hv⟩ := h.look_ok Kk ht (z := z) hz (zd := .held z) (zp := []) rfl hkey
  have hv' : DataW.held v = D.atKey (kS (s.1.data.toList, s.2.data.toList)) (.held z) := by
    have := congrArg (Option.map Prod.fst) hv; simpa [hR] using this
  rcases r (s.1.data.toList, s.2.data.toList) hs.1 hs.2 with ⟨h1, h2⟩ | ⟨u, h1, h2, h3⟩
  · rw [atKey_of_not_has h2] at hv'
    injection hv' with hv'
    rw [hrun, h1, h2, hv']; rfl
  · rw [h3] at hv'
    injection hv' with hv'
    rw [hrun, h1, h2, hv']; rfl
theorem Rmap.store {t e : TypeId} (h : Rmap w P k b n m) (Kk : Keyed P k) (ht : P.underlying t = some (.map k e)) (hn : n < maxLen) {s : ByteArray × ByteArray} (hs : s.1.size ≤ maxLen ∧ s.2.size ≤ maxLen) (hkey : keyOf P k (rowV s.1 s.2) = some (kS (s.1.data.toList, s.2.data.toList))) (v : Value) :
    ∃ w', (Instr.mapUpdate t (.map (some b)) (rowV s.1 s.2) v).run P w = .ok () w' ∧ Rmap w' P k b (n + 1) (mput m (s.1.data.toList, s.2.data.toList) v) ∧ w.grownBy w' (some b) := by
  obtain ⟨D, h, r⟩ := h
  obtain ⟨w', hrun, h', hg⟩ := h.update Kk ht hn hkey (val := v) (d := .held v) (ps := []) rfl
  refine ⟨w', hrun, ⟨_, h', fun l hl1 hl2 => ?_⟩, hg⟩
  by_cases hl : l = (s.1.data.toList, s.2.data.toList)
  · subst hl
    have hkl : WideAt.IsKeyLit (kS (s.1.data.toList, s.2.data.toList)) := trivial
    exact .inr ⟨v, mput_same .., has_put_same h.isMap hkl _, fun d => atKey_put_same h.isMap hkl _ d⟩
  · have hne : kS l ≠ kS (s.1.data.toList, s.2.data.toList) := fun e => hl (kS_inj hl1 hl2 hs.1 hs.2 e)
    rw [mput_other hl]
    rcases r l hl1 hl2 with ⟨h1, h2⟩ | ⟨u, h1, h2, h3⟩
    · exact .inl ⟨h1, by rw [has_put_other hne]; exact h2⟩
    · exact .inr ⟨u, h1, by rw [has_put_other hne]; exact h2, fun d => by rw [atKey_put_other hne]; exact h3 d⟩
end
section
variable {P : Program} (w : World) {ops : Array Oper} {rest : List Oper} {o : Oper} {a : Act} {Q : Exit → Act → World → Prop}
/-- a look-up with ok -/
theorem wpList_look (hg : o.guard = none) (x y : Operand) (t : TypeId) (hop : o.op = Op.lookup t x y true) (k e : TypeId) (Kk : Keyed P k) (ht : P.underlying t = some (.map k e)) (z : Value) (hz : (zeroValue e).run P w = .ok z w)
    (b n : Nat) (m : Key → Option Value) (hm : a.eval x = .map (some b)) (h : Rmap w P k b n m) (s : ByteArray × ByteArray) (hx : a.eval y = rowV s.1 s.2) (hs : s.1.size ≤ maxLen ∧ s.2.size ≤ maxLen) (hkey : keyOf P k (rowV s.1 s.2) = some (kS (s.1.data.toList, s.2.data.toList))) (v : Value) (c : Bool) (hv : (m (s.1.data.toList, s.2.data.toList)).getD z = v) (hc : (m (s.1.data.toList, s.2.data.toList)).isSome = c)
    (hK : wpList P ops Q rest (a.put o.dst (.tuple #[v, .bool c])) w) : wpList P ops Q (o :: rest) a w := by
  refine wpList_plain hg fun K' hK' => ?_
  have hrun := h.look Kk ht hz hs hkey
  rw [hv, hc] at hrun
  unfold Oper.wp
  simp [execOp, hop, hm, hx, hrun, Result.andThen]
  exact hK' _ _ hK
/-- a look-up with ok that finds nothing -/
theorem wpList_look_no (hg : o.guard = none) (x y : Operand) (t : TypeId) (hop : o.op = Op.lookup t x y true) (k e : TypeId) (Kk : Keyed P k) (ht : P.underlying t = some (.map k e)) (z : Value) (hz : (zeroValue e).run P w = .ok z w)
    (b n : Nat) (m : Key → Option Value) (hm : a.eval x = .map (some b)) (h : Rmap w P k b n m) (s : ByteArray × ByteArray) (hx : a.eval y = rowV s.1 s.2) (hs : s.1.size ≤ maxLen ∧ s.2.size ≤ maxLen) (hkey : keyOf P k (rowV s.1 s.2) = some (kS (s.1.data.toList, s.2.data.toList))) (hv : m (s.1.data.toList, s.2.data.toList) = none)
    (hK : wpList P ops Q rest (a.put o.dst (.tuple #[z, .bool false])) w) : wpList P ops Q (o :: rest) a w := by
  refine wpList_plain hg fun K' hK' => ?_
  have hrun := h.look Kk ht hz hs hkey
  rw [hv] at hrun
  unfold Oper.wp
  simp [execOp, hop, hm, hx, hrun, Result.andThen]
  exact hK' _ _ hK
/-- a look-up with ok that finds v -/
theorem wpList_look_yes (hg : o.guard = none) (x y : Operand) (t : TypeId) (hop : o.op = Op.lookup t x y true) (k e : TypeId) (Kk : Keyed P k) (ht : P.underlying t = some (.map k e)) (z : Value) (hz : (zeroValue e).run P w = .ok z w)
    (b n : Nat) (m : Key → Option Value) (hm : a.eval x = .map (some b)) (h : Rmap w P k b n m) (s : ByteArray × ByteArray) (hx : a.eval y = rowV s.1 s.2) (hs : s.1.size ≤ maxLen ∧ s.2.size ≤ maxLen) (hkey : keyOf P k (rowV s.1 s.2) = some (kS (s.1.data.toList, s.2.data.toList))) (v : Value) (hv : m (s.1.data.toList, s.2.data.toList) = some v)
    (hK : wpList P ops Q rest (a.put o.dst (.tuple #[v, .bool true])) w) : wpList P ops Q (o :: rest) a w := by
  refine wpList_plain hg fun K' hK' => ?_
  have hrun := h.look Kk ht hz hs hkey
  rw [hv] at hrun
  unfold Oper.wp
  simp [execOp, hop, hm, hx, hrun, Result.andThen]
  exact hK' _ _ hK
theorem wp_mput {K : Act → World → Prop} (x y u : Operand) (t : TypeId) (hop : o.op = Op.mapUpdate t x y u) (k e : TypeId) (Kk : Keyed P k) (ht : P.underlying t = some (.map k e))
    (b n : Nat) (m : Key → Option Value) (hm : a.eval x = .map (some b)) (h : Rmap w P k b n m) (hn : n < maxLen) (s : ByteArray × ByteArray) (hx : a.eval y = rowV s.1 s.2) (hs : s.1.size ≤ maxLen ∧ s.2.size ≤ maxLen) (hkey : keyOf P k (rowV s.1 s.2) = some (kS (s.1.data.toList, s.2.data.toList))) (v : Value) (hv : a.eval u = v)
    (hK : ∀ w', Rmap w' P k b (n + 1) (mput m (s.1.data.toList, s.2.data.toList) v) → w.grownBy w' (some b) → K (a.put o.dst undef) w') : o.wp P a w K Q := by
  obtain ⟨w', hrun, r1, r2⟩ := h.store Kk ht hn hs hkey v
  unfold Oper.wp
  simp [execOp, hop, hm, hx, hv, hrun, Result.andThen]
  exact hK w' r1 r2
/-- a store -/
theorem wpList_mput (hg : o.guard = none) (x y u : Operand) (t : TypeId) (hop : o.op = Op.mapUpdate t x y u) (k e : TypeId) (Kk : Keyed P k) (ht : P.underlying t = some (.map k e))
    (b n : Nat) (m : Key → Option Value) (hm : a.eval x = .map (some b)) (h : Rmap w P k b n m) (hn : n < maxLen) (s : ByteArray × ByteArray) (hx : a.eval y = rowV s.1 s.2) (hs : s.1.size ≤ maxLen ∧ s.2.size ≤ maxLen) (hkey : keyOf P k (rowV s.1 s.2) = some (kS (s.1.data.toList, s.2.data.toList))) (v : Value) (hv : a.eval u = v)
    (hK : ∀ w', Rmap w' P k b (n + 1) (mput m (s.1.data.toList, s.2.data.toList) v) → w.grownBy w' (some b) → wpList P ops Q rest (a.put o.dst undef) w') : wpList P ops Q (o :: rest) a w := by
  refine wpList_plain hg fun K' hK' => ?_
  obtain ⟨w', hrun, r1, r2⟩ := h.store Kk ht hn hs hkey v
  unfold Oper.wp
  simp [execOp, hop, hm, hx, hv, hrun, Result.andThen]
  exact hK' _ _ (hK w' r1 r2)
end
end Go.Proofs.YtgflodjohaemiaaDoor.Mr
