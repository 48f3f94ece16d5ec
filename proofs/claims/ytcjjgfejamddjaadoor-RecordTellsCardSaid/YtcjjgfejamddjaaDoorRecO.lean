/-
  RECORDS OF BYTES: record.Of, walked.
-/
import Derived.Test.YtcjjgfejamddjaaDoorRecB
import Derived.Laws.CopyRow
import Derived.Laws.CopyOwn
import Derived.Deep.WholeRow
namespace Go.Proofs.YtcjjgfejamddjaaDoor.Rec
open Go.ChangeShapes Go.WideShapes Go.ChangeAt Go.RowKit
open Go.Proofs.YtcjjgfejamddjaaDoor
open Go.Proofs.YtcjjgfejamddjaaDoor.Wd
open Go.Proofs.YtcjjgfejamddjaaDoor.Lit
open Go.Proofs.YtcjjgfejamddjaaDoor.Civ (Tab Inv)
open Go.Proofs.YtcjjgfejamddjaaDoor.Stp (stV Bd chkS zeroS okS ofV)
set_option linter.unusedVariables false
def St.nil : St := ⟨0, 0, 0, 0, 0, 0, 0, 0⟩
def stOf (x : ByteArray) : St := ⟨ofV x 0, ofV x 1, ofV x 2, ofV x 3, ofV x 4, ofV x 5, ofV x 6, ofV x 7⟩
theorem stOf_bd (x : ByteArray) : (stOf x).Bd := by
  have h := Stp.ofV_lt x
  have hh : ∀ k, (0 : Int) ≤ (ofV x k : Int) ∧ (ofV x k : Int) ≤ 65535 := fun k => by have := h k; omega
  exact ⟨hh 0, hh 1, hh 2, hh 3, hh 4, hh 5, hh 6, hh 7⟩
def oB (b : ByteArray) (k : Nat) : Int := sgn 4 (leN (((LB b).drop (4 * k)).take 4))
def oX (b : ByteArray) (k : Nat) : ByteArray := ⟨(((LB b).drop (12 + 16 * k)).take 16).toArray⟩
def oS (b : ByteArray) (k : Nat) : St := stOf (oX b k)
theorem oB_bd (b : ByteArray) (k : Nat) : -2147483648 ≤ oB b k ∧ oB b k ≤ 2147483647 := by
  have h := leN_lt (((LB b).drop (4 * k)).take 4)
  have hl : (((LB b).drop (4 * k)).take 4).length ≤ 4 := by rw [List.length_take]; omega
  have := Nat.pow_le_pow_right (show 0 < 256 by decide) hl
  unfold oB sgn
  simp
  split <;> omega
theorem o_bd (b : ByteArray) : RBd (oB b 0) (oB b 1) (oB b 2) (oS b 0) (oS b 1) := ⟨oB_bd b 0, oB_bd b 1, oB_bd b 2, stOf_bd _, stOf_bd _⟩
def oOk (b : ByteArray) : Bool := decide (b.size = 44) && rcOk (oB b 0) (oB b 1) (oB b 2) (oS b 0) (oS b 1)
def oV (b : ByteArray) : Value := if oOk b = true then rcV (oB b 0) (oB b 1) (oB b 2) (oS b 0) (oS b 1) else rcV 0 0 0 St.nil St.nil
def oE (b : ByteArray) : Int := if oOk b = true then 0 else 11
abbrev z19 : Array Value := #[.int .i32 0, .int .i32 0, .int .i32 0, .int .u16 0, .int .u16 0, .int .u16 0, .int .u16 0, .int .u16 0, .int .u16 0, .int .u16 0, .int .u16 0, .int .u16 0, .int .u16 0, .int .u16 0, .int .u16 0, .int .u16 0, .int .u16 0, .int .u16 0, .int .u16 0]
/-- the record under way: k of its numbers are read -/
def nk (b : ByteArray) (k j : Nat) : Value := .int .i32 (if j < k then oB b j else 0)
def n3 (b : ByteArray) (k : Nat) : Array Value := #[nk b k 0, nk b k 1, nk b k 2, .int .u16 0, .int .u16 0, .int .u16 0, .int .u16 0, .int .u16 0, .int .u16 0, .int .u16 0, .int .u16 0, .int .u16 0, .int .u16 0, .int .u16 0, .int .u16 0, .int .u16 0, .int .u16 0, .int .u16 0, .int .u16 0]
theorem n3_at (b : ByteArray) {k : Nat} (h : k < 3) : (n3 b k)[k]? = some (.int .i32 0) := by
  have hk8 : k = 0 ∨ k = 1 ∨ k = 2 := by omega
  rcases hk8 with rfl | rfl | rfl <;> rfl
theorem n3_set (b : ByteArray) {k : Nat} (h : k < 3) : (n3 b k).setIfInBounds k (.int .i32 (oB b k)) = n3 b (k + 1) := by
  have hk8 : k = 0 ∨ k = 1 ∨ k = 2 := by omega
  rcases hk8 with rfl | rfl | rfl <;> rfl
abbrev ptr3 (g : Nat) : Value := .agg #[.pointer (some ⟨g, 0, none⟩), .pointer (some ⟨g, 1, none⟩), .pointer (some ⟨g, 2, none⟩)]
theorem pt_0 (g : Nat) (w : World) : (Instr.index 99 (ptr3 g) (.int .i64 0)).run Tryd.prog w = .ok (.pointer (some ⟨g, 0, none⟩)) w := by kernel_rfl
theorem pt_1 (g : Nat) (w : World) : (Instr.index 99 (ptr3 g) (.int .i64 1)).run Tryd.prog w = .ok (.pointer (some ⟨g, 1, none⟩)) w := by kernel_rfl
theorem pt_2 (g : Nat) (w : World) : (Instr.index 99 (ptr3 g) (.int .i64 2)).run Tryd.prog w = .ok (.pointer (some ⟨g, 2, none⟩)) w := by kernel_rfl
theorem pt_at (g k : Nat) (z : Int) (hz : z = (k : Int)) (hk : k < 3) (w : World) : (Instr.index 99 (ptr3 g) (.int .i64 z)).run Tryd.prog w = .ok (.pointer (some ⟨g, k, none⟩)) w := by
  subst hz
  have hk8 : k = 0 ∨ k = 1 ∨ k = 2 := by omega
  rcases hk8 with rfl | rfl | rfl
  · exact pt_0 g w
  · exact pt_1 g w
  · exact pt_2 g w
theorem results_zero {fn : Func} {p q : Tmp} (h : fn.results = #[.cell p 53, .tmp q]) (tmps : Array Value) (w : World) (g : Nat) (t : TypeId) (cs : Array Value) (v : Value)
    (hp : tmps.getD p undef = .pointer (some ⟨g, 0, none⟩)) (hq : tmps.getD q undef = v) (hg : w.heap[g]? = some (.cells cs t (0, 0))) (hs : cs.size = 19) :
    (results fn tmps).run Tryd.prog w = .ok (.tuple #[.agg cs, v]) w := by
  have hp' : tmps[p]?.getD undef = .pointer (some ⟨g, 0, none⟩) := by simpa using hp
  have hq' : tmps[q]?.getD undef = v := by simpa using hq
  have hi : (Tryd.prog.info? 53).map (·.size) = some cs.size := by rw [hs]; kernel_rfl
  simp [results, h, hp', hq', asAddr, run_loadVar_row w g t 53 cs (0, 0) _ hg Tryd.underlying53 rfl hi]
theorem of_bad {b : ByteArray} (h : oOk b = false) : oV b = rcV 0 0 0 St.nil St.nil ∧ oE b = 11 := by unfold oV oE; rw [h]; exact ⟨rfl, rfl⟩
theorem of_good {b : ByteArray} (h : oOk b = true) : oV b = rcV (oB b 0) (oB b 1) (oB b 2) (oS b 0) (oS b 1) ∧ oE b = 0 := by unfold oV oE; rw [h]; exact ⟨rfl, rfl⟩
/-- .. and k of its stamps -/
def mk (b : ByteArray) (k j : Nat) : St := if j < k then oS b j else St.nil
def m3 (b : ByteArray) (k : Nat) : Array Value := rcA (oB b 0) (oB b 1) (oB b 2) (mk b k 0) (mk b k 1)
abbrev stA (x : St) : Array Value := #[.int .u16 x.y, .int .u16 x.m, .int .u16 x.v, .int .u16 x.d, .int .u16 x.h, .int .u16 x.i, .int .u16 x.s, .int .u16 x.u]
theorem oX_size (b : ByteArray) (h : b.size = 44) {k : Nat} (hk : k < 2) : (oX b k).size = 16 := by
  show (((LB b).drop (12 + 16 * k)).take 16).toArray.size = 16
  rw [List.size_toArray, List.length_take, List.length_drop, LB_len, h]; omega
theorem raw_next {b x : ByteArray} (hb : b.size = 44) {k : Nat} (hk : k < 2) (hx : LB x = (LB b).drop (12 + 16 * k)) :
    tkO x false 16 = true ∧ tkR x false 16 = oX b k ∧ LB (tkS x false 16) = (LB b).drop (12 + 16 * (k + 1)) := by
  have hs : x.size = 32 - 16 * k := by rw [← LB_len, hx, List.length_drop, LB_len, hb]; omega
  obtain ⟨t1, t2, t3⟩ := tk_yes (s := x) (n := 16) (by omega) (by omega)
  refine ⟨t1, ?_, ?_⟩
  · rw [t2]
    apply ByteArray.ext
    apply Array.toList_inj.1
    show LB (x.extract 0 16) = _
    rw [LB_ext, hx]; rfl
  · rw [t3, LB_ext, hx, List.take_of_length_le (by rw [List.length_drop, LB_len]; omega), List.drop_drop]
    congr 1
theorem of_st (x : ByteArray) (w : World) (hx : x.size = 16) :
    Calls Tryd.prog 20 #[.string x] w fun e w' => e = .returned (.tuple #[.agg (stA (stOf x)), .int .i64 0]) ∧ Below w.heap.size w w' := Stp.of_full x w hx
abbrev ptr2 (g : Nat) : Value := .agg #[.pointer (some ⟨g, 3, none⟩), .pointer (some ⟨g, 11, none⟩)]
theorem ps_0 (g : Nat) (w : World) : (Instr.index 101 (ptr2 g) (.int .i64 0)).run Tryd.prog w = .ok (.pointer (some ⟨g, 3, none⟩)) w := by kernel_rfl
theorem ps_1 (g : Nat) (w : World) : (Instr.index 101 (ptr2 g) (.int .i64 1)).run Tryd.prog w = .ok (.pointer (some ⟨g, 11, none⟩)) w := by kernel_rfl
theorem Blk.row {w : World} {g : Nat} {t : TypeId} {cs : Array Value} (h : Blk w g t cs) (ds : Array Value) : Blk (w.setRow g ds) g t ds := setRow_heap w g cs ds t (0, 0) h
theorem Blk.rowFar {w : World} {g g' : Nat} {t : TypeId} {cs : Array Value} (h : Blk w g t cs) (hn : g ≠ g') (ds : Array Value) : Blk (w.setRow g' ds) g t cs := (setRow_other w g' g ds hn).trans h
theorem below_row {B : Nat} {w w' : World} (h : Below B w w') {g : Nat} (hg : B ≤ g) (ds : Array Value) : Below B w (w'.setRow g ds) :=
  Go.below_setRow h hg ds
theorem wpList_store_seg {P : Program} {ops : Array Oper} {rest : List Oper} {o : Oper} {a : Act} {w : World} {Q : Exit → Act → World → Prop} (hgd : o.guard = none) (ty : TypeId) (x y : Operand) (ho : o.op = .store ty x y) (hd : o.dst = none)
    (g k : Nat) (cells new : Array Value) (hx : a.eval x = .pointer (some ⟨g, k, none⟩)) (hy : a.eval y = .agg cells) (t : TypeId) (old : Array Value) (hg : Blk w g t old)
    (hl : k + cells.size ≤ old.size) (hi : (P.info? ty).map (·.size) = some cells.size) (h1 : cells.all (·.oneCell') = true) (hn : (old.toList.take k ++ cells.toList ++ old.toList.drop (k + cells.size)).toArray = new)
    (h : wpList P ops Q rest a (w.setRow g new)) : wpList P ops Q (o :: rest) a w := by
  refine wpList_plain hgd fun _ hK => ?_
  have := run_storeCells_at (P := P) g k t cells.toList 0 old w hg (by simpa using hl) (fun v hv => (Array.all_eq_true_iff_forall_mem.1 h1) v (by simpa using hv))
  simp only [Nat.add_zero, Array.length_toList] at this
  rw [hn] at this
  have hs : (storeVar ty ⟨g, k, none⟩ (.agg cells)).run P w = .ok () (w.setRow g new) := by
    cases hq : P.info? ty with
    | none => simp [hq] at hi
    | some i =>
      have hsz : cells.size = i.size := by simp [hq] at hi; omega
      simp [storeVar, sizeOf, typeInfo, hq, Value.cells, hsz, this]
  unfold Oper.wp execOp
  simp only [ho, hx, hy, Instr.storeAt, Instr.sureAddr, Sem.run_bind, Sem.run_pure, Result.andThen_ok, hs]
  exact hK _ _ (by rw [hd]; exact h)
set_option maxRecDepth 20000 in
set_option maxHeartbeats 3200000 in
theorem of_short (b : ByteArray) (w : World) (hb : b.size ≠ 44) :
    Calls Tryd.prog 30 #[.string b] w fun e w' => e = .returned (.tuple #[oV b, .int .i64 (oE b)]) ∧ Below w.heap.size w w' := by
  have hb' : ((b.size : Int) != 44) = true := by simp; omega
  obtain ⟨e1, e2⟩ := of_bad (b := b) (by unfold oOk; simp [hb])
  rw [e1, e2]
  clear hb
  have x0 := Blk.new w 53 z19
  have hB := (Below.refl w.heap.size w).alloc (Nat.le_refl _) (.cells z19 53)
  go_enter Tryd.func30, Tryd.ntmps30
  go_wp2_with (refine wpList_store_seg rfl 53 _ _ rfl rfl _ 0 z19 z19 rfl rfl _ _ x0 (by decide) (by kernel_rfl) (by kernel_rfl) (by kernel_rfl) ?_)
  exact bodyPost_ret (results_zero rfl _ _ _ _ _ _ rfl rfl (Blk.row x0 _) rfl) rfl ⟨rfl, below_row hB (Nat.le_refl _) _⟩
set_option maxRecDepth 20000 in
set_option maxHeartbeats 6400000 in
theorem of_full (b : ByteArray) (w : World) (hT : Tab w) (hb : b.size = 44) :
    Calls Tryd.prog 30 #[.string b] w fun e w' => e = .returned (.tuple #[oV b, .int .i64 (oE b)]) ∧ Below w.heap.size w w' := by
  have hb' : ((b.size : Int) != 44) = false := by simp; omega
  have HB := Lib.hid hb; clear hb
  have x0 := Blk.new w 53 z19
  have B2 := ((Below.refl w.heap.size w).alloc (Nat.le_refl _) (.cells z19 53)).alloc (by simp) (.cells z19 53)
  have x2 := x0.alloc (.cells z19 53)
  have y2 : Blk ((w.alloc (.cells z19 53)).alloc (.cells z19 53)) (w.heap.size + 1) 53 (n3 b 0) := by
    have := Blk.new (w.alloc (.cells z19 53)) 53 z19
    rw [show (w.alloc (.cells z19 53)).heap.size = w.heap.size + 1 by simp] at this
    exact this
  clear x0
  go_enter Tryd.func30, Tryd.ntmps30
  go_wp2_with fail
  refine (open_any _ _).mono ?_; rintro e w1 ⟨rfl, hw1⟩
  have hz1 : w1.heap.size = w.heap.size + 3 := by rw [hw1]; simp
  have hr1 : Rd w1 (w.heap.size + 2) b false := by rw [hw1]; simpa using Blk.new ((w.alloc (.cells z19 53)).alloc (.cells z19 53)) 126 #[.string b, .bool false]
  have x1 : Blk w1 w.heap.size 53 z19 := by rw [hw1]; exact x2.alloc _
  have y1 : Blk w1 (w.heap.size + 1) 53 (n3 b 0) := by rw [hw1]; exact y2.alloc _
  have B1 : Below w.heap.size w w1 := by rw [hw1]; exact B2.alloc (by simp; omega) _
  clear x2 y2 B2 hw1 hz1
  go_wp2_with fail
  go_loopw [7, 22] (fun _ ii w' => ∃ (k : Nat) (x : ByteArray), ii = .int .i64 k ∧ k ≤ 3 ∧ Rd w' (w.heap.size + 2) x false ∧ LB x = (LB b).drop (4 * k) ∧ Blk w' (w.heap.size + 1) 53 (n3 b k) ∧ Blk w' w.heap.size 53 z19 ∧ Below w.heap.size w w') (fun _ ii _ => 3 - (intOf ii).toNat)
  case atStart => exact ⟨0, b, rfl, Nat.zero_le _, hr1, by simp, y1, x1, B1⟩
  case round =>
    obtain ⟨k, x, rfl, hk, hr, hx, hy, hx0, hbw⟩ := hrel
    clear hr1 x1 y1 B1
    by_cases hlt : k < 3
    · have hlt' : (k : Int) < 3 := by omega
      have hpt := pt_at (w.heap.size + 1) k _ rfl hlt
      have hsp : LB x = ((LB b).drop (4 * k)).take 4 ++ (LB b).drop (4 * (k + 1)) := by
        rw [hx, show 4 * (k + 1) = 4 * k + 4 by omega, ← List.drop_drop, List.take_append_drop]
      have hl2 : ((((LB b).drop (4 * k)).take 4).length : Int) = 4 := by
        rw [List.length_take, List.length_drop, LB_len, HB.out]; omega
      obtain ⟨t1, t2, t3⟩ := gd_next (n := 4) hsp hl2 (by omega) (by omega)
      have hxs : x.size ≤ 9223372036854775807 := by rw [← LB_len, hx, List.length_drop, LB_len, HB.out]; omega
      have t3 : sgnV x false 4 = oB b k := by unfold sgnV oB; rw [if_pos (by decide), t3]
      have hvl := oB_bd b k
      have HT2 := Lib.hid t2
      have hSet := Lib.hid (n3_set b hlt)
      have hAt := n3_at b hlt
      clear hx hsp hl2 t2
      go_wp2_with (go_at_call 61; refine (Lit.signed_any (w.heap.size + 2) x false 4 _ hr hxs).mono ?_; rintro e w3 ⟨rfl, hr3, hg3⟩; rw [t3]; rw [t1] at hr3; have hy3 := hy.grown hg3 (by intro e; injection e with e; omega); have hx3 := hx0.grown hg3 (by intro e; injection e with e; omega); have c3 := (hy3.cell k).trans hAt; have f3 := hy3.frozen k; have l3 := hy3.lt)
      have B3 : Below w.heap.size w w3 := hbw.grown hg3 hbw.size (fun q hq => by injection hq with hq; omega)
      go_roundw
      case rel => exact ⟨k + 1, _, by go_num, by omega, hr3.far (p := ⟨w.heap.size + 1, k, none⟩) (by simp) _, HT2.out, by rw [← hSet.out]; exact hy3.set_ k _, hx3.far (p := ⟨w.heap.size + 1, k, none⟩) (by simp) _, B3.setCell (p := ⟨w.heap.size + 1, k, none⟩) (by simp) _⟩
      case measure => simp [intOf]; omega
    · obtain rfl : k = 3 := by omega
      have hy3 : Blk wr (w.heap.size + 1) 53 (m3 b 0) := hy
      clear hy
      go_wp2_with fail
      go_loopw [9, 10, 11, 34] (fun _ _ _ ii w' => ∃ (k : Nat) (x : ByteArray), ii = .int .i64 k ∧ k ≤ 2 ∧ Rd w' (w.heap.size + 2) x false ∧ LB x = (LB b).drop (12 + 16 * k) ∧ Blk w' (w.heap.size + 1) 53 (m3 b k) ∧ Blk w' w.heap.size 53 z19 ∧ Below w.heap.size w w') (fun _ _ _ ii _ => 2 - (intOf ii).toNat)
      case atStart => exact ⟨0, x, rfl, Nat.zero_le _, hr, hx, hy3, hx0, hbw⟩
      case round =>
        clear hr hx hy3 hx0 hbw
        obtain ⟨k, x, rfl, hk, hr, hx, hy, hx0, hbw⟩ := hrel
        have hk3 : k = 0 ∨ k = 1 ∨ k = 2 := by omega
        rcases hk3 with rfl | rfl | rfl
        · obtain ⟨t1, t2, t3⟩ := raw_next HB.out (by decide : 0 < 2) hx
          have hxs : x.size ≤ 9223372036854775807 := by rw [← LB_len, hx, List.length_drop, LB_len, HB.out]; omega
          have hos := oX_size b HB.out (by decide : 0 < 2)
          have HT3 := Lib.hid t3
          have hpt := ps_0 (w.heap.size + 1)
          clear hx t3
          go_wp2_with fail
          refine (rraw_any _ _ _ _ _ hr hxs).mono ?_; rintro e w3 ⟨rfl, hr3, hg3⟩
          rw [t2]
          rw [t1] at hr3
          have hy3 := hy.grown hg3 (by intro e; injection e with e; omega)
          have hx3 := hx0.grown hg3 (by intro e; injection e with e; omega)
          have B3 : Below w.heap.size w w3 := hbw.grown hg3 hbw.size (fun q hq => by injection hq with hq; omega)
          clear hr hy hx0 hbw hg3
          go_wp2_with fail
          refine (of_st _ _ hos).mono ?_; rintro e w4 ⟨rfl, hb4⟩
          have hy4 := hy3.below hb4 hy3.lt
          have hx4 := hx3.below hb4 hx3.lt
          have hr4 := hr3.below hb4 hr3.lt
          have B4 := B3.trans (hb4.mono B3.size)
          have ly := hy4.lt
          have lr := hr4.lt
          clear hr3 hy3 hx3 B3 hb4
          generalize hS : stOf (oX b 0) = S
          go_wp2_with (refine wpList_store_seg rfl 41 _ _ rfl rfl _ 3 (stA S) (rcA (oB b 0) (oB b 1) (oB b 2) S St.nil) rfl rfl _ _ (hy4.alloc _) (by show 3 + 8 ≤ 19; decide) (by kernel_rfl) (by kernel_rfl) (by kernel_rfl) ?_)
          go_roundw
          case rel =>
            refine ⟨_, _, _, _, _, _, _, _, _, _, _, _, _, _, _, _, _, _, _, _, ?_, rfl⟩
            exact ⟨1, _, by go_num, by omega, Blk.rowFar (hr4.alloc _) (by omega) _, HT3.out, by subst hS; exact Blk.row (hy4.alloc _) _, Blk.rowFar (hx4.alloc _) (by omega) _, below_row (B4.alloc B4.size _) (by omega) _⟩
          case measure => simp [intOf]
        · obtain ⟨t1, t2, t3⟩ := raw_next HB.out (by decide : 1 < 2) hx
          have hxs : x.size ≤ 9223372036854775807 := by rw [← LB_len, hx, List.length_drop, LB_len, HB.out]; omega
          have hos := oX_size b HB.out (by decide : 1 < 2)
          have HT3 := Lib.hid t3
          have hpt := ps_1 (w.heap.size + 1)
          clear hx t3
          go_wp2_with fail
          refine (rraw_any _ _ _ _ _ hr hxs).mono ?_; rintro e w3 ⟨rfl, hr3, hg3⟩
          rw [t2]
          rw [t1] at hr3
          have hy3 := hy.grown hg3 (by intro e; injection e with e; omega)
          have hx3 := hx0.grown hg3 (by intro e; injection e with e; omega)
          have B3 : Below w.heap.size w w3 := hbw.grown hg3 hbw.size (fun q hq => by injection hq with hq; omega)
          clear hr hy hx0 hbw hg3
          go_wp2_with fail
          refine (of_st _ _ hos).mono ?_; rintro e w4 ⟨rfl, hb4⟩
          have hy4 := hy3.below hb4 hy3.lt
          have hx4 := hx3.below hb4 hx3.lt
          have hr4 := hr3.below hb4 hr3.lt
          have B4 := B3.trans (hb4.mono B3.size)
          have ly := hy4.lt
          have lr := hr4.lt
          clear hr3 hy3 hx3 B3 hb4
          generalize hS : stOf (oX b 1) = S
          go_wp2_with (refine wpList_store_seg rfl 41 _ _ rfl rfl _ 11 (stA S) (rcA (oB b 0) (oB b 1) (oB b 2) (mk b 1 0) S) rfl rfl _ _ (hy4.alloc _) (by show 11 + 8 ≤ 19; decide) (by kernel_rfl) (by kernel_rfl) (by kernel_rfl) ?_)
          go_roundw
          case rel =>
            refine ⟨_, _, _, _, _, _, _, _, _, _, _, _, _, _, _, _, _, _, _, _, ?_, rfl⟩
            exact ⟨2, _, by go_num, by omega, Blk.rowFar (hr4.alloc _) (by omega) _, HT3.out, by subst hS; exact Blk.row (hy4.alloc _) _, Blk.rowFar (hx4.alloc _) (by omega) _, below_row (B4.alloc B4.size _) (by omega) _⟩
          case measure => simp [intOf]
        · have hy4 : Blk wr (w.heap.size + 1) 53 (rcA (oB b 0) (oB b 1) (oB b 2) (oS b 0) (oS b 1)) := hy
          clear hy hr hx
          have RB := o_bd b
          have H44 := Lib.hid (show oOk b = rcOk (oB b 0) (oB b 1) (oB b 2) (oS b 0) (oS b 1) by unfold oOk; rw [HB.out]; simp)
          have HV := Lib.hid (show oV b = if rcOk (oB b 0) (oB b 1) (oB b 2) (oS b 0) (oS b 1) = true then rcV (oB b 0) (oB b 1) (oB b 2) (oS b 0) (oS b 1) else rcV 0 0 0 St.nil St.nil by unfold oV; rw [H44.out])
          have HE := Lib.hid (show oE b = if rcOk (oB b 0) (oB b 1) (oB b 2) (oS b 0) (oS b 1) = true then 0 else 11 by unfold oE; rw [H44.out])
          clear H44
          generalize oB b 0 = d0 at *
          generalize oB b 1 = d1 at *
          generalize oB b 2 = d2 at *
          generalize oS b 0 = p at *
          generalize oS b 1 = q at *
          go_wp2_with (refine wpList_load_row rfl 53 _ rfl _ rfl _ _ _ _ hy4 Tryd.underlying53 rfl (by kernel_rfl) ?_)
          refine (chk_any d0 d1 d2 p q _ (hT.below hT.1 hbw) RB).mono ?_; rintro e w5 ⟨rfl, hb5⟩
          have hy5 := hy4.below hb5 hy4.lt
          have hx5 := hx0.below hb5 hx0.lt
          have B5 := hbw.trans (hb5.mono hbw.size)
          clear hy4 hx0 hbw hb5
          cases hrc : rcOk d0 d1 d2 p q
          · have hc : (rcE d0 d1 d2 p q != 0) = true := by unfold rcE; rw [hrc]; rfl
            rw [hrc] at HV HE
            clear hrc
            go_wp2_with (refine wpList_store_seg rfl 53 _ _ rfl rfl _ 0 z19 z19 rfl rfl _ _ hx5 (by decide) (by kernel_rfl) (by kernel_rfl) (by kernel_rfl) ?_)
            exact bodyPost_ret (results_zero rfl _ _ _ _ _ _ rfl rfl (Blk.row hx5 _) rfl) rfl ⟨by rw [HV.out, HE.out]; rfl, below_row B5 (Nat.le_refl _) _⟩
          · have hc : (rcE d0 d1 d2 p q != 0) = false := by unfold rcE; rw [hrc]; rfl
            rw [hrc] at HV HE
            clear hrc
            go_wp2_with (first
              | (refine wpList_load_row rfl 53 _ rfl _ rfl _ _ _ _ hy5 Tryd.underlying53 rfl (by kernel_rfl) ?_)
              | (refine wpList_store_seg rfl 53 _ _ rfl rfl _ 0 (rcA d0 d1 d2 p q) (rcA d0 d1 d2 p q) rfl rfl _ _ hx5 (by show 0 + 19 ≤ 19; decide) (by kernel_rfl) (by kernel_rfl) (by kernel_rfl) ?_))
            exact bodyPost_ret (results_zero rfl _ _ _ _ _ _ rfl rfl (Blk.row hx5 _) rfl) rfl ⟨by rw [HV.out, HE.out]; rfl, below_row B5 (Nat.le_refl _) _⟩
end Go.Proofs.YtcjjgfejamddjaaDoor.Rec

