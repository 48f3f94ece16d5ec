/-
  THE PLANE: three points turned, in whatever order.
-/
import Derived.Test.YtoiccljmdplfgaaPl4
import Derived.Test.YtoiccljmdplfgaaReg
namespace Go.Proofs.Ytoiccljmdplfgaa.Pl
open Go.ChangeShapes Go.WideShapes Go.ChangeAt Go.RowKit
open Go.Proofs.Ytoiccljmdplfgaa
open Go.Proofs.Ytoiccljmdplfgaa.Wd
set_option linter.unusedVariables false
theorem wp_store_row15 {P : Program} {o : Oper} {a : Act} {w : World} {K : Act → World → Prop} {Q : Exit → Act → World → Prop} (ty : TypeId) (x y : Operand) (ho : o.op = .store ty x y) (hd : o.dst = none)
    (g : Nat) (cells : Array Value) (hx : a.eval x = .pointer (some ⟨g, 0, none⟩)) (hy : a.eval y = .agg cells) (t : TypeId) (old : Array Value) (hg : Blk w g t old)
    (hl : cells.size = old.size) (hi : (P.info? ty).map (·.size) = some cells.size) (h1 : cells.all (·.oneCell') = true)
    (h : K a (w.setRow g cells)) : o.wp P a w K Q := by
  have := run_storeCells_at (P := P) g 0 t cells.toList 0 old w hg (by simp [hl]) (fun v hv => (Array.all_eq_true_iff_forall_mem.1 h1) v (by simpa using hv))
  simp only [Nat.add_zero, Array.length_toList, List.take_zero, List.nil_append, Nat.zero_add] at this
  rw [List.drop_of_length_le (by simp [hl]), List.append_nil, Array.toArray_toList] at this
  have hs : (storeVar ty ⟨g, 0, none⟩ (.agg cells)).run P w = .ok () (w.setRow g cells) := by
    cases hq : P.info? ty with
    | none => simp [hq] at hi
    | some i =>
      have hsz : cells.size = i.size := by simp [hq] at hi; omega
      simp [storeVar, sizeOf, typeInfo, hq, Value.cells, hsz, this]
  unfold Oper.wp execOp
  simp only [ho, hx, hy, Instr.storeAt, Instr.sureAddr, Sem.run_bind, Sem.run_pure, Result.andThen_ok, hs]
  show K (a.put o.dst undef) _
  rw [hd]; exact h
def ops15 : List Oper := [{ dst := some 165, op := Op.load 23 (Operand.tmp 5), type := 23, pos := "law.go:42", after := #[], guard := none },
  { dst := some 166, op := Op.move (Operand.tmp 3), type := 3, pos := "law.go:42", after := #[], guard := none },
  { dst := some 167, op := Op.call { callee := Callee.value (Operand.func 18), args := #[Operand.tmp 165, Operand.tmp 166], argTypes := #[23, 3] }, type := 23, pos := "law.go:42", after := #[{ on := 0, ground := Ground.data }, { on := 1, ground := Ground.data }], guard := none },
  { dst := some 168, op := Op.load 23 (Operand.tmp 6), type := 23, pos := "law.go:42", after := #[], guard := none },
  { dst := some 169, op := Op.move (Operand.tmp 3), type := 3, pos := "law.go:42", after := #[], guard := none },
  { dst := some 170, op := Op.call { callee := Callee.value (Operand.func 18), args := #[Operand.tmp 168, Operand.tmp 169], argTypes := #[23, 3] }, type := 23, pos := "law.go:42", after := #[{ on := 3, ground := Ground.data }, { on := 4, ground := Ground.data }, { on := 2, ground := Ground.chain }], guard := none },
  { dst := some 171, op := Op.load 23 (Operand.tmp 7), type := 23, pos := "law.go:42", after := #[], guard := none },
  { dst := some 172, op := Op.move (Operand.tmp 3), type := 3, pos := "law.go:42", after := #[], guard := none },
  { dst := some 173, op := Op.call { callee := Callee.value (Operand.func 18), args := #[Operand.tmp 171, Operand.tmp 172], argTypes := #[23, 3] }, type := 23, pos := "law.go:42", after := #[{ on := 6, ground := Ground.data }, { on := 7, ground := Ground.data }, { on := 5, ground := Ground.chain }], guard := none },
  { dst := some 14, op := Op.alloc 23, type := 0, pos := "law.go:42", after := #[], guard := none },
  { dst := some 15, op := Op.alloc 23, type := 0, pos := "law.go:42", after := #[], guard := none },
  { dst := some 16, op := Op.alloc 23, type := 0, pos := "law.go:42", after := #[], guard := none },
  { dst := none, op := Op.store 23 (Operand.tmp 14) (Operand.tmp 167), type := 0, pos := "law.go:42", after := #[{ on := 9, ground := Ground.data }, { on := 2, ground := Ground.data }, { on := 8, ground := Ground.chain }, { on := 0, ground := Ground.phase }, { on := 1, ground := Ground.phase }, { on := 2, ground := Ground.phase }, { on := 3, ground := Ground.textOnly Departure.lateStores }, { on := 4, ground := Ground.textOnly Departure.lateStores }, { on := 5, ground := Ground.textOnly Departure.lateStoresUnsure }, { on := 6, ground := Ground.textOnly Departure.lateStores }, { on := 7, ground := Ground.textOnly Departure.lateStores }, { on := 8, ground := Ground.textOnly Departure.lateStoresUnsure }, { on := 9, ground := Ground.phase }, { on := 10, ground := Ground.phase }, { on := 11, ground := Ground.phase }], guard := none },
  { dst := none, op := Op.store 23 (Operand.tmp 15) (Operand.tmp 170), type := 0, pos := "law.go:42", after := #[{ on := 10, ground := Ground.data }, { on := 5, ground := Ground.data }, { on := 12, ground := Ground.chain }, { on := 0, ground := Ground.phase }, { on := 1, ground := Ground.phase }, { on := 2, ground := Ground.phase }, { on := 3, ground := Ground.phase }, { on := 4, ground := Ground.phase }, { on := 5, ground := Ground.phase }, { on := 6, ground := Ground.textOnly Departure.lateStores }, { on := 7, ground := Ground.textOnly Departure.lateStores }, { on := 8, ground := Ground.textOnly Departure.lateStoresUnsure }, { on := 9, ground := Ground.phase }, { on := 10, ground := Ground.phase }, { on := 11, ground := Ground.phase }, { on := 12, ground := Ground.phase }], guard := none },
  { dst := none, op := Op.store 23 (Operand.tmp 16) (Operand.tmp 173), type := 0, pos := "law.go:42", after := #[{ on := 11, ground := Ground.data }, { on := 8, ground := Ground.data }, { on := 13, ground := Ground.chain }, { on := 0, ground := Ground.phase }, { on := 1, ground := Ground.phase }, { on := 2, ground := Ground.phase }, { on := 3, ground := Ground.phase }, { on := 4, ground := Ground.phase }, { on := 5, ground := Ground.phase }, { on := 6, ground := Ground.phase }, { on := 7, ground := Ground.phase }, { on := 8, ground := Ground.phase }, { on := 9, ground := Ground.phase }, { on := 10, ground := Ground.phase }, { on := 11, ground := Ground.phase }, { on := 12, ground := Ground.phase }, { on := 13, ground := Ground.phase }], guard := none }]
abbrev Z2 : Array Value := #[.int .i64 0, .int .i64 0]
abbrev V2 (x y : Int) : Array Value := #[.int .i64 x, .int .i64 y]
structure S15 (tm : Array Value) (w0 : World) (ga gb gc : Nat) (A B C X Y Z : Array Value) (n : Int) (gx gy gz : Nat) (L : Nat → Bool) (t : Array Value) (w : World) : Prop where
  frm : Reg.Frm tm t [165, 166, 167, 168, 169, 170, 171, 172, 173, 14, 15, 16]
  inv : BI w0 w
  ba : Blk w ga 23 A
  bb : Blk w gb 23 B
  bc : Blk w gc 23 C
  s0 : L 0 = true → t[165]? = some (.agg A)
  s1 : L 1 = true → t[166]? = some (.int .i64 n)
  s2 : L 2 = true → t[167]? = some (.agg X)
  s3 : L 3 = true → t[168]? = some (.agg B)
  s4 : L 4 = true → t[169]? = some (.int .i64 n)
  s5 : L 5 = true → t[170]? = some (.agg Y)
  s6 : L 6 = true → t[171]? = some (.agg C)
  s7 : L 7 = true → t[172]? = some (.int .i64 n)
  s8 : L 8 = true → t[173]? = some (.agg Z)
  s9 : L 9 = true → t[14]? = some (.pointer (some ⟨gx, 0, none⟩)) ∧ w0.heap.size ≤ gx ∧ gx ≠ ga ∧ gx ≠ gb ∧ gx ≠ gc
  b9 : L 9 = true → Blk w gx 23 (if L 12 = true then X else Z2)
  s10 : L 10 = true → t[15]? = some (.pointer (some ⟨gy, 0, none⟩)) ∧ w0.heap.size ≤ gy ∧ gy ≠ ga ∧ gy ≠ gb ∧ gy ≠ gc
  b10 : L 10 = true → Blk w gy 23 (if L 13 = true then Y else Z2)
  s11 : L 11 = true → t[16]? = some (.pointer (some ⟨gz, 0, none⟩)) ∧ w0.heap.size ≤ gz ∧ gz ≠ ga ∧ gz ≠ gb ∧ gz ≠ gc
  b11 : L 11 = true → Blk w gz 23 (if L 14 = true then Z else Z2)
  d1 : L 9 = true → L 10 = true → gx ≠ gy
  d2 : L 9 = true → L 11 = true → gx ≠ gz
  d3 : L 10 = true → L 11 = true → gy ≠ gz
set_option maxRecDepth 100000 in
set_option maxHeartbeats 4000000 in
theorem reg15 {id : Nat} (tm : Array Value) (w0 w : World) (ga gb gc : Nat) (a1 a2 b1 b2 c1 c2 x1 x2 y1 y2 z1 z2 n : Int) {Q : Exit → Act → World → Prop} (hsz : 173 < tm.size)
    (h5 : tm[5]? = some (.pointer (some ⟨ga, 0, none⟩))) (h6 : tm[6]? = some (.pointer (some ⟨gb, 0, none⟩))) (h7 : tm[7]? = some (.pointer (some ⟨gc, 0, none⟩))) (h3 : tm[3]? = some (.int .i64 n))
    (hqa : ∀ w, Calls Try.prog 18 #[.agg (V2 a1 a2), .int .i64 n] w fun e w' => e = .returned (.agg (V2 x1 x2)) ∧ Below w.heap.size w w')
    (hqb : ∀ w, Calls Try.prog 18 #[.agg (V2 b1 b2), .int .i64 n] w fun e w' => e = .returned (.agg (V2 y1 y2)) ∧ Below w.heap.size w w')
    (hqc : ∀ w, Calls Try.prog 18 #[.agg (V2 c1 c2), .int .i64 n] w fun e w' => e = .returned (.agg (V2 z1 z2)) ∧ Below w.heap.size w w')
    (hi : BI w0 w) (ha : Blk w ga 23 (V2 a1 a2)) (hb : Blk w gb 23 (V2 b1 b2)) (hc : Blk w gc 23 (V2 c1 c2))
    (hQ : ∀ (w' : World) (gx gy gz : Nat),
      BI w0 w' → Blk w' ga 23 (V2 a1 a2) → Blk w' gb 23 (V2 b1 b2) → Blk w' gc 23 (V2 c1 c2) → Blk w' gx 23 (V2 x1 x2) → Blk w' gy 23 (V2 y1 y2) → Blk w' gz 23 (V2 z1 z2) → Q .normal { tmps := ([(165, .agg (V2 a1 a2)), (166, .int .i64 n), (167, .agg (V2 x1 x2)), (168, .agg (V2 b1 b2)), (169, .int .i64 n), (170, .agg (V2 y1 y2)), (171, .agg (V2 c1 c2)), (172, .int .i64 n), (173, .agg (V2 z1 z2)), (14, .pointer (some ⟨gx, 0, none⟩)), (15, .pointer (some ⟨gy, 0, none⟩)), (16, .pointer (some ⟨gz, 0, none⟩))] : List (Nat × Value)).foldl (fun s k => s.setIfInBounds k.1 k.2) tm, defers := [] } w') :
    (Code.region id ops15.toArray true).wp Try.prog Q { tmps := tm, defers := [] } w := by
  refine Reg.region_inv (by kernel_rfl) (by decide +kernel) (fun L a w => a.defers = [] ∧ (∀ k, 12 ≤ k → L k = true → L 9 = true ∧ L 10 = true ∧ L 11 = true) ∧ ∃ gx gy gz, S15 tm w0 ga gb gc (V2 a1 a2) (V2 b1 b2) (V2 c1 c2) (V2 x1 x2) (V2 y1 y2) (V2 z1 z2) n gx gy gz L a.tmps w) ?_ ?_ ?_
  · exact ⟨rfl, fun _ _ e => (Bool.false_ne_true e).elim, 0, 0, 0, { frm := Reg.Frm.refl _ _, inv := hi.drew, ba := ha.drew, bb := hb.drew, bc := hc.drew, s0 := fun e => (Bool.false_ne_true e).elim, s1 := fun e => (Bool.false_ne_true e).elim, s2 := fun e => (Bool.false_ne_true e).elim, s3 := fun e => (Bool.false_ne_true e).elim, s4 := fun e => (Bool.false_ne_true e).elim, s5 := fun e => (Bool.false_ne_true e).elim, s6 := fun e => (Bool.false_ne_true e).elim, s7 := fun e => (Bool.false_ne_true e).elim, s8 := fun e => (Bool.false_ne_true e).elim, s9 := fun e => (Bool.false_ne_true e).elim, s10 := fun e => (Bool.false_ne_true e).elim, s11 := fun e => (Bool.false_ne_true e).elim, b9 := fun e => (Bool.false_ne_true e).elim, b10 := fun e => (Bool.false_ne_true e).elim, b11 := fun e => (Bool.false_ne_true e).elim, d1 := fun e => (Bool.false_ne_true e).elim, d2 := fun e => (Bool.false_ne_true e).elim, d3 := fun e => (Bool.false_ne_true e).elim }⟩
  · intro L a wx i o ho hL hd hI
    obtain ⟨hdf, hst, gx, gy, gz, h⟩ := hI
    have hi15 : i < 15 := (List.getElem?_eq_some_iff.1 ho).1
    have hup : ∀ k, 12 ≤ k → Reg.upd L i k = true → i < 12 → L 9 = true ∧ L 10 = true ∧ L 11 = true := fun k hk e hi => hst k hk (by rw [Reg.upd_at, if_neg (by omega)] at e; exact e)
    have hst' : ∀ k, 12 ≤ k → Reg.upd L i k = true → i < 12 → Reg.upd L i 9 = true ∧ Reg.upd L i 10 = true ∧ Reg.upd L i 11 = true := fun k hk e hi => by
      obtain ⟨q1, q2, q3⟩ := hup k hk e hi
      refine ⟨?_, ?_, ?_⟩ <;> (rw [Reg.upd_at]; split <;> first | rfl | assumption)
    have HS := Lib.hid hst'
    have HT := Lib.hid hst
    clear hQ hst hup hst'
    have hcs : i = 0 ∨ i = 1 ∨ i = 2 ∨ i = 3 ∨ i = 4 ∨ i = 5 ∨ i = 6 ∨ i = 7 ∨ i = 8 ∨ i = 9 ∨ i = 10 ∨ i = 11 ∨ i = 12 ∨ i = 13 ∨ i = 14 := by omega
    rcases hcs with rfl | rfl | rfl | rfl | rfl | rfl | rfl | rfl | rfl | rfl | rfl | rfl | rfl | rfl | rfl
    · refine wpOp_step (show ops15.toArray[_]? = some o by rw [List.getElem?_toArray]; exact ho) fun K hK => ?_
      simp only [ops15, List.getElem?_cons_zero, Option.some.injEq] at ho
      subst ho
      rw [if_pos (by rfl)]
      refine wp_load_row 23 (.tmp 5) rfl ga (Reg.eval_at (h.frm.get h5 (by decide))) _ _ _ _ h.ba Try.underlying23 rfl (by kernel_rfl) (hK _ _ ?_)
      exact ⟨hdf, fun k hk e => HS.out k hk e (by omega), gx, gy, gz, { frm := h.frm.put (by decide) _, inv := h.inv, ba := h.ba, bb := h.bb, bc := h.bc, s0 := fun _ => Reg.put_at' _ (by rw [h.frm.1]; omega), s1 := fun e => (Reg.put_ne (by decide)).trans (h.s1 e), s2 := fun e => (Reg.put_ne (by decide)).trans (h.s2 e), s3 := fun e => (Reg.put_ne (by decide)).trans (h.s3 e), s4 := fun e => (Reg.put_ne (by decide)).trans (h.s4 e), s5 := fun e => (Reg.put_ne (by decide)).trans (h.s5 e), s6 := fun e => (Reg.put_ne (by decide)).trans (h.s6 e), s7 := fun e => (Reg.put_ne (by decide)).trans (h.s7 e), s8 := fun e => (Reg.put_ne (by decide)).trans (h.s8 e), s9 := fun e => ⟨(Reg.put_ne (by decide)).trans (h.s9 e).1, (h.s9 e).2⟩, b9 := fun e => (h.b9 e), s10 := fun e => ⟨(Reg.put_ne (by decide)).trans (h.s10 e).1, (h.s10 e).2⟩, b10 := fun e => (h.b10 e), s11 := fun e => ⟨(Reg.put_ne (by decide)).trans (h.s11 e).1, (h.s11 e).2⟩, b11 := fun e => (h.b11 e), d1 := h.d1, d2 := h.d2, d3 := h.d3 }⟩
    · refine wpOp_step (show ops15.toArray[_]? = some o by rw [List.getElem?_toArray]; exact ho) fun K hK => ?_
      simp only [ops15, List.getElem?_cons_succ, List.getElem?_cons_zero, Option.some.injEq] at ho
      subst ho
      rw [if_pos (by rfl)]
      have ev : a.eval (.tmp 3) = .int .i64 n := Reg.eval_at (h.frm.get h3 (by decide))
      unfold Oper.wp execOp
      simp only [ev, Sem.run_pure, Oper.upon]
      exact hK _ _ ⟨by first | exact hdf | rfl, fun k hk e => HS.out k hk e (by omega), gx, gy, gz, { frm := h.frm.put (by decide) _, inv := h.inv, ba := h.ba, bb := h.bb, bc := h.bc, s0 := fun e => (Reg.put_ne (by decide)).trans (h.s0 e), s1 := fun _ => Reg.put_at' _ (by rw [h.frm.1]; omega), s2 := fun e => (Reg.put_ne (by decide)).trans (h.s2 e), s3 := fun e => (Reg.put_ne (by decide)).trans (h.s3 e), s4 := fun e => (Reg.put_ne (by decide)).trans (h.s4 e), s5 := fun e => (Reg.put_ne (by decide)).trans (h.s5 e), s6 := fun e => (Reg.put_ne (by decide)).trans (h.s6 e), s7 := fun e => (Reg.put_ne (by decide)).trans (h.s7 e), s8 := fun e => (Reg.put_ne (by decide)).trans (h.s8 e), s9 := fun e => ⟨(Reg.put_ne (by decide)).trans (h.s9 e).1, (h.s9 e).2⟩, b9 := fun e => (h.b9 e), s10 := fun e => ⟨(Reg.put_ne (by decide)).trans (h.s10 e).1, (h.s10 e).2⟩, b10 := fun e => (h.b10 e), s11 := fun e => ⟨(Reg.put_ne (by decide)).trans (h.s11 e).1, (h.s11 e).2⟩, b11 := fun e => (h.b11 e), d1 := h.d1, d2 := h.d2, d3 := h.d3 }⟩
    · refine wpOp_step (show ops15.toArray[_]? = some o by rw [List.getElem?_toArray]; exact ho) fun K hK => ?_
      simp only [ops15, List.getElem?_cons_succ, List.getElem?_cons_zero, Option.some.injEq] at ho
      subst ho
      rw [if_pos (by rfl)]
      have p1 := h.s0 (hd ⟨0, .data⟩ (by simp) rfl)
      have p2 := h.s1 (hd ⟨1, .data⟩ (by simp) rfl)
      go_simp
      refine (hqa _).mono ?_
      rintro e w1 ⟨rfl, hb⟩
      exact hK _ _ ⟨by first | exact hdf | rfl, fun k hk e => HS.out k hk e (by omega), gx, gy, gz, { frm := h.frm.put (by decide) _, inv := h.inv.call hb, ba := h.ba.below hb h.ba.lt, bb := h.bb.below hb h.bb.lt, bc := h.bc.below hb h.bc.lt, s0 := fun e => (Reg.put_ne (by decide)).trans (h.s0 e), s1 := fun e => (Reg.put_ne (by decide)).trans (h.s1 e), s2 := fun _ => Reg.put_at' _ (by rw [h.frm.1]; omega), s3 := fun e => (Reg.put_ne (by decide)).trans (h.s3 e), s4 := fun e => (Reg.put_ne (by decide)).trans (h.s4 e), s5 := fun e => (Reg.put_ne (by decide)).trans (h.s5 e), s6 := fun e => (Reg.put_ne (by decide)).trans (h.s6 e), s7 := fun e => (Reg.put_ne (by decide)).trans (h.s7 e), s8 := fun e => (Reg.put_ne (by decide)).trans (h.s8 e), s9 := fun e => ⟨(Reg.put_ne (by decide)).trans (h.s9 e).1, (h.s9 e).2⟩, b9 := fun e => (h.b9 e).below hb (h.b9 e).lt, s10 := fun e => ⟨(Reg.put_ne (by decide)).trans (h.s10 e).1, (h.s10 e).2⟩, b10 := fun e => (h.b10 e).below hb (h.b10 e).lt, s11 := fun e => ⟨(Reg.put_ne (by decide)).trans (h.s11 e).1, (h.s11 e).2⟩, b11 := fun e => (h.b11 e).below hb (h.b11 e).lt, d1 := h.d1, d2 := h.d2, d3 := h.d3 }⟩
    · refine wpOp_step (show ops15.toArray[_]? = some o by rw [List.getElem?_toArray]; exact ho) fun K hK => ?_
      simp only [ops15, List.getElem?_cons_succ, List.getElem?_cons_zero, Option.some.injEq] at ho
      subst ho
      rw [if_pos (by rfl)]
      refine wp_load_row 23 (.tmp 6) rfl gb (Reg.eval_at (h.frm.get h6 (by decide))) _ _ _ _ h.bb Try.underlying23 rfl (by kernel_rfl) (hK _ _ ?_)
      exact ⟨hdf, fun k hk e => HS.out k hk e (by omega), gx, gy, gz, { frm := h.frm.put (by decide) _, inv := h.inv, ba := h.ba, bb := h.bb, bc := h.bc, s0 := fun e => (Reg.put_ne (by decide)).trans (h.s0 e), s1 := fun e => (Reg.put_ne (by decide)).trans (h.s1 e), s2 := fun e => (Reg.put_ne (by decide)).trans (h.s2 e), s3 := fun _ => Reg.put_at' _ (by rw [h.frm.1]; omega), s4 := fun e => (Reg.put_ne (by decide)).trans (h.s4 e), s5 := fun e => (Reg.put_ne (by decide)).trans (h.s5 e), s6 := fun e => (Reg.put_ne (by decide)).trans (h.s6 e), s7 := fun e => (Reg.put_ne (by decide)).trans (h.s7 e), s8 := fun e => (Reg.put_ne (by decide)).trans (h.s8 e), s9 := fun e => ⟨(Reg.put_ne (by decide)).trans (h.s9 e).1, (h.s9 e).2⟩, b9 := fun e => (h.b9 e), s10 := fun e => ⟨(Reg.put_ne (by decide)).trans (h.s10 e).1, (h.s10 e).2⟩, b10 := fun e => (h.b10 e), s11 := fun e => ⟨(Reg.put_ne (by decide)).trans (h.s11 e).1, (h.s11 e).2⟩, b11 := fun e => (h.b11 e), d1 := h.d1, d2 := h.d2, d3 := h.d3 }⟩
    · refine wpOp_step (show ops15.toArray[_]? = some o by rw [List.getElem?_toArray]; exact ho) fun K hK => ?_
      simp only [ops15, List.getElem?_cons_succ, List.getElem?_cons_zero, Option.some.injEq] at ho
      subst ho
      rw [if_pos (by rfl)]
      have ev : a.eval (.tmp 3) = .int .i64 n := Reg.eval_at (h.frm.get h3 (by decide))
      unfold Oper.wp execOp
      simp only [ev, Sem.run_pure, Oper.upon]
      exact hK _ _ ⟨by first | exact hdf | rfl, fun k hk e => HS.out k hk e (by omega), gx, gy, gz, { frm := h.frm.put (by decide) _, inv := h.inv, ba := h.ba, bb := h.bb, bc := h.bc, s0 := fun e => (Reg.put_ne (by decide)).trans (h.s0 e), s1 := fun e => (Reg.put_ne (by decide)).trans (h.s1 e), s2 := fun e => (Reg.put_ne (by decide)).trans (h.s2 e), s3 := fun e => (Reg.put_ne (by decide)).trans (h.s3 e), s4 := fun _ => Reg.put_at' _ (by rw [h.frm.1]; omega), s5 := fun e => (Reg.put_ne (by decide)).trans (h.s5 e), s6 := fun e => (Reg.put_ne (by decide)).trans (h.s6 e), s7 := fun e => (Reg.put_ne (by decide)).trans (h.s7 e), s8 := fun e => (Reg.put_ne (by decide)).trans (h.s8 e), s9 := fun e => ⟨(Reg.put_ne (by decide)).trans (h.s9 e).1, (h.s9 e).2⟩, b9 := fun e => (h.b9 e), s10 := fun e => ⟨(Reg.put_ne (by decide)).trans (h.s10 e).1, (h.s10 e).2⟩, b10 := fun e => (h.b10 e), s11 := fun e => ⟨(Reg.put_ne (by decide)).trans (h.s11 e).1, (h.s11 e).2⟩, b11 := fun e => (h.b11 e), d1 := h.d1, d2 := h.d2, d3 := h.d3 }⟩
    · refine wpOp_step (show ops15.toArray[_]? = some o by rw [List.getElem?_toArray]; exact ho) fun K hK => ?_
      simp only [ops15, List.getElem?_cons_succ, List.getElem?_cons_zero, Option.some.injEq] at ho
      subst ho
      rw [if_pos (by rfl)]
      have p1 := h.s3 (hd ⟨3, .data⟩ (by simp) rfl)
      have p2 := h.s4 (hd ⟨4, .data⟩ (by simp) rfl)
      go_simp
      refine (hqb _).mono ?_
      rintro e w1 ⟨rfl, hb⟩
      exact hK _ _ ⟨by first | exact hdf | rfl, fun k hk e => HS.out k hk e (by omega), gx, gy, gz, { frm := h.frm.put (by decide) _, inv := h.inv.call hb, ba := h.ba.below hb h.ba.lt, bb := h.bb.below hb h.bb.lt, bc := h.bc.below hb h.bc.lt, s0 := fun e => (Reg.put_ne (by decide)).trans (h.s0 e), s1 := fun e => (Reg.put_ne (by decide)).trans (h.s1 e), s2 := fun e => (Reg.put_ne (by decide)).trans (h.s2 e), s3 := fun e => (Reg.put_ne (by decide)).trans (h.s3 e), s4 := fun e => (Reg.put_ne (by decide)).trans (h.s4 e), s5 := fun _ => Reg.put_at' _ (by rw [h.frm.1]; omega), s6 := fun e => (Reg.put_ne (by decide)).trans (h.s6 e), s7 := fun e => (Reg.put_ne (by decide)).trans (h.s7 e), s8 := fun e => (Reg.put_ne (by decide)).trans (h.s8 e), s9 := fun e => ⟨(Reg.put_ne (by decide)).trans (h.s9 e).1, (h.s9 e).2⟩, b9 := fun e => (h.b9 e).below hb (h.b9 e).lt, s10 := fun e => ⟨(Reg.put_ne (by decide)).trans (h.s10 e).1, (h.s10 e).2⟩, b10 := fun e => (h.b10 e).below hb (h.b10 e).lt, s11 := fun e => ⟨(Reg.put_ne (by decide)).trans (h.s11 e).1, (h.s11 e).2⟩, b11 := fun e => (h.b11 e).below hb (h.b11 e).lt, d1 := h.d1, d2 := h.d2, d3 := h.d3 }⟩
    · refine wpOp_step (show ops15.toArray[_]? = some o by rw [List.getElem?_toArray]; exact ho) fun K hK => ?_
      simp only [ops15, List.getElem?_cons_succ, List.getElem?_cons_zero, Option.some.injEq] at ho
      subst ho
      rw [if_pos (by rfl)]
      refine wp_load_row 23 (.tmp 7) rfl gc (Reg.eval_at (h.frm.get h7 (by decide))) _ _ _ _ h.bc Try.underlying23 rfl (by kernel_rfl) (hK _ _ ?_)
      exact ⟨hdf, fun k hk e => HS.out k hk e (by omega), gx, gy, gz, { frm := h.frm.put (by decide) _, inv := h.inv, ba := h.ba, bb := h.bb, bc := h.bc, s0 := fun e => (Reg.put_ne (by decide)).trans (h.s0 e), s1 := fun e => (Reg.put_ne (by decide)).trans (h.s1 e), s2 := fun e => (Reg.put_ne (by decide)).trans (h.s2 e), s3 := fun e => (Reg.put_ne (by decide)).trans (h.s3 e), s4 := fun e => (Reg.put_ne (by decide)).trans (h.s4 e), s5 := fun e => (Reg.put_ne (by decide)).trans (h.s5 e), s6 := fun _ => Reg.put_at' _ (by rw [h.frm.1]; omega), s7 := fun e => (Reg.put_ne (by decide)).trans (h.s7 e), s8 := fun e => (Reg.put_ne (by decide)).trans (h.s8 e), s9 := fun e => ⟨(Reg.put_ne (by decide)).trans (h.s9 e).1, (h.s9 e).2⟩, b9 := fun e => (h.b9 e), s10 := fun e => ⟨(Reg.put_ne (by decide)).trans (h.s10 e).1, (h.s10 e).2⟩, b10 := fun e => (h.b10 e), s11 := fun e => ⟨(Reg.put_ne (by decide)).trans (h.s11 e).1, (h.s11 e).2⟩, b11 := fun e => (h.b11 e), d1 := h.d1, d2 := h.d2, d3 := h.d3 }⟩
    · refine wpOp_step (show ops15.toArray[_]? = some o by rw [List.getElem?_toArray]; exact ho) fun K hK => ?_
      simp only [ops15, List.getElem?_cons_succ, List.getElem?_cons_zero, Option.some.injEq] at ho
      subst ho
      rw [if_pos (by rfl)]
      have ev : a.eval (.tmp 3) = .int .i64 n := Reg.eval_at (h.frm.get h3 (by decide))
      unfold Oper.wp execOp
      simp only [ev, Sem.run_pure, Oper.upon]
      exact hK _ _ ⟨by first | exact hdf | rfl, fun k hk e => HS.out k hk e (by omega), gx, gy, gz, { frm := h.frm.put (by decide) _, inv := h.inv, ba := h.ba, bb := h.bb, bc := h.bc, s0 := fun e => (Reg.put_ne (by decide)).trans (h.s0 e), s1 := fun e => (Reg.put_ne (by decide)).trans (h.s1 e), s2 := fun e => (Reg.put_ne (by decide)).trans (h.s2 e), s3 := fun e => (Reg.put_ne (by decide)).trans (h.s3 e), s4 := fun e => (Reg.put_ne (by decide)).trans (h.s4 e), s5 := fun e => (Reg.put_ne (by decide)).trans (h.s5 e), s6 := fun e => (Reg.put_ne (by decide)).trans (h.s6 e), s7 := fun _ => Reg.put_at' _ (by rw [h.frm.1]; omega), s8 := fun e => (Reg.put_ne (by decide)).trans (h.s8 e), s9 := fun e => ⟨(Reg.put_ne (by decide)).trans (h.s9 e).1, (h.s9 e).2⟩, b9 := fun e => (h.b9 e), s10 := fun e => ⟨(Reg.put_ne (by decide)).trans (h.s10 e).1, (h.s10 e).2⟩, b10 := fun e => (h.b10 e), s11 := fun e => ⟨(Reg.put_ne (by decide)).trans (h.s11 e).1, (h.s11 e).2⟩, b11 := fun e => (h.b11 e), d1 := h.d1, d2 := h.d2, d3 := h.d3 }⟩
    · refine wpOp_step (show ops15.toArray[_]? = some o by rw [List.getElem?_toArray]; exact ho) fun K hK => ?_
      simp only [ops15, List.getElem?_cons_succ, List.getElem?_cons_zero, Option.some.injEq] at ho
      subst ho
      rw [if_pos (by rfl)]
      have p1 := h.s6 (hd ⟨6, .data⟩ (by simp) rfl)
      have p2 := h.s7 (hd ⟨7, .data⟩ (by simp) rfl)
      go_simp
      refine (hqc _).mono ?_
      rintro e w1 ⟨rfl, hb⟩
      exact hK _ _ ⟨by first | exact hdf | rfl, fun k hk e => HS.out k hk e (by omega), gx, gy, gz, { frm := h.frm.put (by decide) _, inv := h.inv.call hb, ba := h.ba.below hb h.ba.lt, bb := h.bb.below hb h.bb.lt, bc := h.bc.below hb h.bc.lt, s0 := fun e => (Reg.put_ne (by decide)).trans (h.s0 e), s1 := fun e => (Reg.put_ne (by decide)).trans (h.s1 e), s2 := fun e => (Reg.put_ne (by decide)).trans (h.s2 e), s3 := fun e => (Reg.put_ne (by decide)).trans (h.s3 e), s4 := fun e => (Reg.put_ne (by decide)).trans (h.s4 e), s5 := fun e => (Reg.put_ne (by decide)).trans (h.s5 e), s6 := fun e => (Reg.put_ne (by decide)).trans (h.s6 e), s7 := fun e => (Reg.put_ne (by decide)).trans (h.s7 e), s8 := fun _ => Reg.put_at' _ (by rw [h.frm.1]; omega), s9 := fun e => ⟨(Reg.put_ne (by decide)).trans (h.s9 e).1, (h.s9 e).2⟩, b9 := fun e => (h.b9 e).below hb (h.b9 e).lt, s10 := fun e => ⟨(Reg.put_ne (by decide)).trans (h.s10 e).1, (h.s10 e).2⟩, b10 := fun e => (h.b10 e).below hb (h.b10 e).lt, s11 := fun e => ⟨(Reg.put_ne (by decide)).trans (h.s11 e).1, (h.s11 e).2⟩, b11 := fun e => (h.b11 e).below hb (h.b11 e).lt, d1 := h.d1, d2 := h.d2, d3 := h.d3 }⟩
    · refine wpOp_step (show ops15.toArray[_]? = some o by rw [List.getElem?_toArray]; exact ho) fun K hK => ?_
      simp only [ops15, List.getElem?_cons_succ, List.getElem?_cons_zero, Option.some.injEq] at ho
      subst ho
      rw [if_pos (by rfl)]
      have hno : L 12 = false := by
        cases hq : L 12 with
        | false => rfl
        | true => obtain ⟨q1, q2, q3⟩ := HT.out 12 (by omega) hq; simp_all
      go_simp
      exact hK _ _ ⟨by first | exact hdf | rfl, fun k hk e => HS.out k hk e (by omega), wx.heap.size, gy, gz, { frm := h.frm.put (by decide) _, inv := h.inv.alloc _, ba := h.ba.alloc _, bb := h.bb.alloc _, bc := h.bc.alloc _, s0 := fun e => (Reg.put_ne (by decide)).trans (h.s0 e), s1 := fun e => (Reg.put_ne (by decide)).trans (h.s1 e), s2 := fun e => (Reg.put_ne (by decide)).trans (h.s2 e), s3 := fun e => (Reg.put_ne (by decide)).trans (h.s3 e), s4 := fun e => (Reg.put_ne (by decide)).trans (h.s4 e), s5 := fun e => (Reg.put_ne (by decide)).trans (h.s5 e), s6 := fun e => (Reg.put_ne (by decide)).trans (h.s6 e), s7 := fun e => (Reg.put_ne (by decide)).trans (h.s7 e), s8 := fun e => (Reg.put_ne (by decide)).trans (h.s8 e), s9 := fun _ => ⟨Reg.put_at' _ (by rw [h.frm.1]; omega), h.inv.size, Nat.ne_of_gt h.ba.lt, Nat.ne_of_gt h.bb.lt, Nat.ne_of_gt h.bc.lt⟩, b9 := fun _ => by rw [show Reg.upd L 9 12 = false from hno]; exact Blk.new _ _ _, s10 := fun e => ⟨(Reg.put_ne (by decide)).trans (h.s10 e).1, (h.s10 e).2⟩, b10 := fun e => (h.b10 e).alloc _, s11 := fun e => ⟨(Reg.put_ne (by decide)).trans (h.s11 e).1, (h.s11 e).2⟩, b11 := fun e => (h.b11 e).alloc _, d1 := fun _ e => Nat.ne_of_gt (h.b10 e).lt, d2 := fun _ e => Nat.ne_of_gt (h.b11 e).lt, d3 := h.d3 }⟩
    · refine wpOp_step (show ops15.toArray[_]? = some o by rw [List.getElem?_toArray]; exact ho) fun K hK => ?_
      simp only [ops15, List.getElem?_cons_succ, List.getElem?_cons_zero, Option.some.injEq] at ho
      subst ho
      rw [if_pos (by rfl)]
      have hno : L 13 = false := by
        cases hq : L 13 with
        | false => rfl
        | true => obtain ⟨q1, q2, q3⟩ := HT.out 13 (by omega) hq; simp_all
      go_simp
      exact hK _ _ ⟨by first | exact hdf | rfl, fun k hk e => HS.out k hk e (by omega), gx, wx.heap.size, gz, { frm := h.frm.put (by decide) _, inv := h.inv.alloc _, ba := h.ba.alloc _, bb := h.bb.alloc _, bc := h.bc.alloc _, s0 := fun e => (Reg.put_ne (by decide)).trans (h.s0 e), s1 := fun e => (Reg.put_ne (by decide)).trans (h.s1 e), s2 := fun e => (Reg.put_ne (by decide)).trans (h.s2 e), s3 := fun e => (Reg.put_ne (by decide)).trans (h.s3 e), s4 := fun e => (Reg.put_ne (by decide)).trans (h.s4 e), s5 := fun e => (Reg.put_ne (by decide)).trans (h.s5 e), s6 := fun e => (Reg.put_ne (by decide)).trans (h.s6 e), s7 := fun e => (Reg.put_ne (by decide)).trans (h.s7 e), s8 := fun e => (Reg.put_ne (by decide)).trans (h.s8 e), s9 := fun e => ⟨(Reg.put_ne (by decide)).trans (h.s9 e).1, (h.s9 e).2⟩, b9 := fun e => (h.b9 e).alloc _, s10 := fun _ => ⟨Reg.put_at' _ (by rw [h.frm.1]; omega), h.inv.size, Nat.ne_of_gt h.ba.lt, Nat.ne_of_gt h.bb.lt, Nat.ne_of_gt h.bc.lt⟩, b10 := fun _ => by rw [show Reg.upd L 10 13 = false from hno]; exact Blk.new _ _ _, s11 := fun e => ⟨(Reg.put_ne (by decide)).trans (h.s11 e).1, (h.s11 e).2⟩, b11 := fun e => (h.b11 e).alloc _, d1 := fun e _ => Nat.ne_of_lt (h.b9 e).lt, d2 := h.d2, d3 := fun _ e => Nat.ne_of_gt (h.b11 e).lt }⟩
    · refine wpOp_step (show ops15.toArray[_]? = some o by rw [List.getElem?_toArray]; exact ho) fun K hK => ?_
      simp only [ops15, List.getElem?_cons_succ, List.getElem?_cons_zero, Option.some.injEq] at ho
      subst ho
      rw [if_pos (by rfl)]
      have hno : L 14 = false := by
        cases hq : L 14 with
        | false => rfl
        | true => obtain ⟨q1, q2, q3⟩ := HT.out 14 (by omega) hq; simp_all
      go_simp
      exact hK _ _ ⟨by first | exact hdf | rfl, fun k hk e => HS.out k hk e (by omega), gx, gy, wx.heap.size, { frm := h.frm.put (by decide) _, inv := h.inv.alloc _, ba := h.ba.alloc _, bb := h.bb.alloc _, bc := h.bc.alloc _, s0 := fun e => (Reg.put_ne (by decide)).trans (h.s0 e), s1 := fun e => (Reg.put_ne (by decide)).trans (h.s1 e), s2 := fun e => (Reg.put_ne (by decide)).trans (h.s2 e), s3 := fun e => (Reg.put_ne (by decide)).trans (h.s3 e), s4 := fun e => (Reg.put_ne (by decide)).trans (h.s4 e), s5 := fun e => (Reg.put_ne (by decide)).trans (h.s5 e), s6 := fun e => (Reg.put_ne (by decide)).trans (h.s6 e), s7 := fun e => (Reg.put_ne (by decide)).trans (h.s7 e), s8 := fun e => (Reg.put_ne (by decide)).trans (h.s8 e), s9 := fun e => ⟨(Reg.put_ne (by decide)).trans (h.s9 e).1, (h.s9 e).2⟩, b9 := fun e => (h.b9 e).alloc _, s10 := fun e => ⟨(Reg.put_ne (by decide)).trans (h.s10 e).1, (h.s10 e).2⟩, b10 := fun e => (h.b10 e).alloc _, s11 := fun _ => ⟨Reg.put_at' _ (by rw [h.frm.1]; omega), h.inv.size, Nat.ne_of_gt h.ba.lt, Nat.ne_of_gt h.bb.lt, Nat.ne_of_gt h.bc.lt⟩, b11 := fun _ => by rw [show Reg.upd L 11 14 = false from hno]; exact Blk.new _ _ _, d1 := h.d1, d2 := fun e _ => Nat.ne_of_lt (h.b9 e).lt, d3 := fun e _ => Nat.ne_of_lt (h.b10 e).lt }⟩
    · refine wpOp_step (show ops15.toArray[_]? = some o by rw [List.getElem?_toArray]; exact ho) fun K hK => ?_
      simp only [ops15, List.getElem?_cons_succ, List.getElem?_cons_zero, Option.some.injEq] at ho
      subst ho
      rw [if_pos (by rfl)]
      have e9 : L 9 = true := hd ⟨9, .phase⟩ (by simp) rfl
      have e10 : L 10 = true := hd ⟨10, .phase⟩ (by simp) rfl
      have e11 : L 11 = true := hd ⟨11, .phase⟩ (by simp) rfl
      have p1 := Reg.eval_at (h.s9 e9).1
      have p2 := Reg.eval_at (h.s2 (hd ⟨2, .data⟩ (by simp) rfl))
      have hk := h.b9 e9
      rw [hL, if_neg (by decide)] at hk
      obtain ⟨_, hge, na, nb, nc⟩ := h.s9 e9
      refine wp_store_row15 23 (.tmp 14) (.tmp 167) rfl rfl gx _ p1 p2 _ _ hk rfl (by kernel_rfl) (by kernel_rfl) (hK _ _ ?_)
      exact ⟨hdf, fun _ _ _ => ⟨e9, e10, e11⟩, gx, gy, gz, { frm := h.frm, inv := below_row h.inv hge _, ba := h.ba.rowFar na.symm _, bb := h.bb.rowFar nb.symm _, bc := h.bc.rowFar nc.symm _, s0 := fun e => (h.s0 e), s1 := fun e => (h.s1 e), s2 := fun e => (h.s2 e), s3 := fun e => (h.s3 e), s4 := fun e => (h.s4 e), s5 := fun e => (h.s5 e), s6 := fun e => (h.s6 e), s7 := fun e => (h.s7 e), s8 := fun e => (h.s8 e), s9 := fun e => h.s9 e, b9 := fun _ => by rw [show Reg.upd L 12 12 = true from rfl, if_pos rfl]; exact hk.row _, s10 := fun e => h.s10 e, b10 := fun e => (h.b10 e).rowFar ((h.d1 e9 e10).symm) _, s11 := fun e => h.s11 e, b11 := fun e => (h.b11 e).rowFar ((h.d2 e9 e11).symm) _, d1 := h.d1, d2 := h.d2, d3 := h.d3 }⟩
    · refine wpOp_step (show ops15.toArray[_]? = some o by rw [List.getElem?_toArray]; exact ho) fun K hK => ?_
      simp only [ops15, List.getElem?_cons_succ, List.getElem?_cons_zero, Option.some.injEq] at ho
      subst ho
      rw [if_pos (by rfl)]
      have e9 : L 9 = true := hd ⟨9, .phase⟩ (by simp) rfl
      have e10 : L 10 = true := hd ⟨10, .phase⟩ (by simp) rfl
      have e11 : L 11 = true := hd ⟨11, .phase⟩ (by simp) rfl
      have p1 := Reg.eval_at (h.s10 e10).1
      have p2 := Reg.eval_at (h.s5 (hd ⟨5, .data⟩ (by simp) rfl))
      have hk := h.b10 e10
      rw [hL, if_neg (by decide)] at hk
      obtain ⟨_, hge, na, nb, nc⟩ := h.s10 e10
      refine wp_store_row15 23 (.tmp 15) (.tmp 170) rfl rfl gy _ p1 p2 _ _ hk rfl (by kernel_rfl) (by kernel_rfl) (hK _ _ ?_)
      exact ⟨hdf, fun _ _ _ => ⟨e9, e10, e11⟩, gx, gy, gz, { frm := h.frm, inv := below_row h.inv hge _, ba := h.ba.rowFar na.symm _, bb := h.bb.rowFar nb.symm _, bc := h.bc.rowFar nc.symm _, s0 := fun e => (h.s0 e), s1 := fun e => (h.s1 e), s2 := fun e => (h.s2 e), s3 := fun e => (h.s3 e), s4 := fun e => (h.s4 e), s5 := fun e => (h.s5 e), s6 := fun e => (h.s6 e), s7 := fun e => (h.s7 e), s8 := fun e => (h.s8 e), s9 := fun e => h.s9 e, b9 := fun e => (h.b9 e).rowFar (h.d1 e9 e10) _, s10 := fun e => h.s10 e, b10 := fun _ => by rw [show Reg.upd L 13 13 = true from rfl, if_pos rfl]; exact hk.row _, s11 := fun e => h.s11 e, b11 := fun e => (h.b11 e).rowFar ((h.d3 e10 e11).symm) _, d1 := h.d1, d2 := h.d2, d3 := h.d3 }⟩
    · refine wpOp_step (show ops15.toArray[_]? = some o by rw [List.getElem?_toArray]; exact ho) fun K hK => ?_
      simp only [ops15, List.getElem?_cons_succ, List.getElem?_cons_zero, Option.some.injEq] at ho
      subst ho
      rw [if_pos (by rfl)]
      have e9 : L 9 = true := hd ⟨9, .phase⟩ (by simp) rfl
      have e10 : L 10 = true := hd ⟨10, .phase⟩ (by simp) rfl
      have e11 : L 11 = true := hd ⟨11, .phase⟩ (by simp) rfl
      have p1 := Reg.eval_at (h.s11 e11).1
      have p2 := Reg.eval_at (h.s8 (hd ⟨8, .data⟩ (by simp) rfl))
      have hk := h.b11 e11
      rw [hL, if_neg (by decide)] at hk
      obtain ⟨_, hge, na, nb, nc⟩ := h.s11 e11
      refine wp_store_row15 23 (.tmp 16) (.tmp 173) rfl rfl gz _ p1 p2 _ _ hk rfl (by kernel_rfl) (by kernel_rfl) (hK _ _ ?_)
      exact ⟨hdf, fun _ _ _ => ⟨e9, e10, e11⟩, gx, gy, gz, { frm := h.frm, inv := below_row h.inv hge _, ba := h.ba.rowFar na.symm _, bb := h.bb.rowFar nb.symm _, bc := h.bc.rowFar nc.symm _, s0 := fun e => (h.s0 e), s1 := fun e => (h.s1 e), s2 := fun e => (h.s2 e), s3 := fun e => (h.s3 e), s4 := fun e => (h.s4 e), s5 := fun e => (h.s5 e), s6 := fun e => (h.s6 e), s7 := fun e => (h.s7 e), s8 := fun e => (h.s8 e), s9 := fun e => h.s9 e, b9 := fun e => (h.b9 e).rowFar (h.d2 e9 e11) _, s10 := fun e => h.s10 e, b10 := fun e => (h.b10 e).rowFar (h.d3 e10 e11) _, s11 := fun e => h.s11 e, b11 := fun _ => by rw [show Reg.upd L 14 14 = true from rfl, if_pos rfl]; exact hk.row _, d1 := h.d1, d2 := h.d2, d3 := h.d3 }⟩
  · intro L a wx hall hI
    obtain ⟨hdf, _, gx, gy, gz, h⟩ := hI
    have hl : ∀ i, i < 15 → L i = true := hall
    have ht := Reg.Frm.same (ks := [(165, .agg (V2 a1 a2)), (166, .int .i64 n), (167, .agg (V2 x1 x2)), (168, .agg (V2 b1 b2)), (169, .int .i64 n), (170, .agg (V2 y1 y2)), (171, .agg (V2 c1 c2)), (172, .int .i64 n), (173, .agg (V2 z1 z2)), (14, .pointer (some ⟨gx, 0, none⟩)), (15, .pointer (some ⟨gy, 0, none⟩)), (16, .pointer (some ⟨gz, 0, none⟩))]) h.frm (by
      intro k hk
      simp only [List.mem_cons, List.not_mem_nil, or_false] at hk
      rcases hk with rfl | rfl | rfl | rfl | rfl | rfl | rfl | rfl | rfl | rfl | rfl | rfl
      · exact h.s0 (hl 0 (by omega))
      · exact h.s1 (hl 1 (by omega))
      · exact h.s2 (hl 2 (by omega))
      · exact h.s3 (hl 3 (by omega))
      · exact h.s4 (hl 4 (by omega))
      · exact h.s5 (hl 5 (by omega))
      · exact h.s6 (hl 6 (by omega))
      · exact h.s7 (hl 7 (by omega))
      · exact h.s8 (hl 8 (by omega))
      · exact (h.s9 (hl 9 (by omega))).1
      · exact (h.s10 (hl 10 (by omega))).1
      · exact (h.s11 (hl 11 (by omega))).1)
    have q9 := h.b9 (hl 9 (by omega)); have q10 := h.b10 (hl 10 (by omega)); have q11 := h.b11 (hl 11 (by omega))
    rw [if_pos (hl 12 (by omega))] at q9; rw [if_pos (hl 13 (by omega))] at q10; rw [if_pos (hl 14 (by omega))] at q11
    have := hQ wx gx gy gz h.inv h.ba h.bb h.bc q9 q10 q11
    rw [← ht] at this
    cases a
    simp only at hdf
    subst hdf
    exact this
end Go.Proofs.Ytoiccljmdplfgaa.Pl
