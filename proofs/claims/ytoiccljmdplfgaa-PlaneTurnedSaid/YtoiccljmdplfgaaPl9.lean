/-
  THE PLANE: how three points turn, each way round, and what lies between them, in whatever order, where the middle one does not.
-/
import Derived.Test.YtoiccljmdplfgaaPl4
import Derived.Test.YtoiccljmdplfgaaPl8
namespace Go.Proofs.Ytoiccljmdplfgaa.Pl
open Go.ChangeShapes Go.WideShapes Go.ChangeAt Go.RowKit
open Go.Proofs.Ytoiccljmdplfgaa
open Go.Proofs.Ytoiccljmdplfgaa.Wd
set_option linter.unusedVariables false
theorem yield_at {ops : Array Oper} {t : Array Value} {g d : Nat} {o : Oper} {b : Bool} (h : ops[g]? = some o) (hd : o.dst = some d) (ht : t[d]? = some (.bool b)) : yielded ops t g = some b := by
  unfold yielded; rw [h]; simp [hd, ht]
theorem want_no {ops : Array Oper} {t : Array Value} {o : Oper} (h : o.guard = none) : Region.wanted o (yielded ops t) = true := by unfold Region.wanted; rw [h]
theorem want_at {ops : Array Oper} {t : Array Value} {o : Oper} {g : Nat} {b b' : Bool} (h : o.guard = some (g, b)) (hy : yielded ops t g = some b') : Region.wanted o (yielded ops t) = decide (b' = b) := by
  unfold Region.wanted; rw [h]; simp [hy]; cases b <;> cases b' <;> rfl
def ops6 : List Oper := [{ dst := some 48, op := Op.load 23 (Operand.tmp 6), type := 23, pos := "law.go:30", after := #[], guard := none },
  { dst := some 49, op := Op.load 23 (Operand.tmp 7), type := 23, pos := "law.go:30", after := #[], guard := none },
  { dst := some 50, op := Op.load 23 (Operand.tmp 5), type := 23, pos := "law.go:30", after := #[], guard := none },
  { dst := some 51, op := Op.call { callee := Callee.value (Operand.func 15), args := #[Operand.tmp 48, Operand.tmp 49, Operand.tmp 50], argTypes := #[23, 23, 23] }, type := 3, pos := "law.go:30", after := #[{ on := 0, ground := Ground.data }, { on := 1, ground := Ground.data }, { on := 2, ground := Ground.data }], guard := none },
  { dst := some 52, op := Op.move (Operand.tmp 11), type := 3, pos := "law.go:30", after := #[], guard := none },
  { dst := some 53, op := Op.binOp BinOp.neq 3 (Operand.tmp 51) (Operand.tmp 52) 3, type := 4, pos := "law.go:30", after := #[{ on := 3, ground := Ground.data }, { on := 4, ground := Ground.data }], guard := none },
  { dst := some 54, op := Op.move (Operand.tmp 53), type := 4, pos := "law.go:30", after := #[{ on := 5, ground := Ground.data }, { on := 3, ground := Ground.chain }], guard := none },
  { dst := some 55, op := Op.load 23 (Operand.tmp 7), type := 23, pos := "law.go:30", after := #[{ on := 6, ground := Ground.guard }], guard := some (6, false) },
  { dst := some 56, op := Op.load 23 (Operand.tmp 6), type := 23, pos := "law.go:30", after := #[{ on := 6, ground := Ground.guard }], guard := some (6, false) },
  { dst := some 57, op := Op.load 23 (Operand.tmp 5), type := 23, pos := "law.go:30", after := #[{ on := 6, ground := Ground.guard }], guard := some (6, false) },
  { dst := some 58, op := Op.call { callee := Callee.value (Operand.func 15), args := #[Operand.tmp 55, Operand.tmp 56, Operand.tmp 57], argTypes := #[23, 23, 23] }, type := 3, pos := "law.go:30", after := #[{ on := 7, ground := Ground.data }, { on := 8, ground := Ground.data }, { on := 9, ground := Ground.data }, { on := 6, ground := Ground.chain }, { on := 6, ground := Ground.guard }], guard := some (6, false) },
  { dst := some 59, op := Op.move (Operand.tmp 11), type := 3, pos := "law.go:30", after := #[{ on := 6, ground := Ground.guard }], guard := some (6, false) },
  { dst := some 60, op := Op.unOp UnOp.neg 3 (Operand.tmp 59), type := 3, pos := "law.go:30", after := #[{ on := 11, ground := Ground.data }, { on := 6, ground := Ground.guard }], guard := some (6, false) },
  { dst := some 61, op := Op.binOp BinOp.neq 3 (Operand.tmp 58) (Operand.tmp 60) 3, type := 4, pos := "law.go:30", after := #[{ on := 10, ground := Ground.data }, { on := 12, ground := Ground.data }, { on := 6, ground := Ground.guard }], guard := some (6, false) },
  { dst := some 62, op := Op.pick (Operand.tmp 54) (Operand.const (Value.bool true)) (Operand.tmp 61), type := 4, pos := "law.go:30", after := #[{ on := 6, ground := Ground.data }, { on := 13, ground := Ground.data }], guard := none },
  { dst := some 63, op := Op.move (Operand.tmp 62), type := 4, pos := "law.go:30", after := #[{ on := 14, ground := Ground.data }, { on := 10, ground := Ground.chain }], guard := none },
  { dst := some 64, op := Op.move (Operand.tmp 11), type := 3, pos := "law.go:30", after := #[{ on := 15, ground := Ground.guard }], guard := some (15, false) },
  { dst := some 65, op := Op.binOp BinOp.lss 3 (Operand.tmp 64) (Operand.const (Value.int IntKind.i64 (-1))) 3, type := 4, pos := "law.go:30", after := #[{ on := 16, ground := Ground.data }, { on := 15, ground := Ground.guard }], guard := some (15, false) },
  { dst := some 66, op := Op.pick (Operand.tmp 63) (Operand.const (Value.bool true)) (Operand.tmp 65), type := 4, pos := "law.go:30", after := #[{ on := 15, ground := Ground.data }, { on := 17, ground := Ground.data }], guard := none },
  { dst := some 67, op := Op.move (Operand.tmp 66), type := 4, pos := "law.go:30", after := #[{ on := 18, ground := Ground.data }, { on := 15, ground := Ground.chain }], guard := none },
  { dst := some 68, op := Op.move (Operand.tmp 11), type := 3, pos := "law.go:30", after := #[{ on := 19, ground := Ground.guard }], guard := some (19, false) },
  { dst := some 69, op := Op.binOp BinOp.gtr 3 (Operand.tmp 68) (Operand.const (Value.int IntKind.i64 1)) 3, type := 4, pos := "law.go:30", after := #[{ on := 20, ground := Ground.data }, { on := 19, ground := Ground.guard }], guard := some (19, false) },
  { dst := some 70, op := Op.pick (Operand.tmp 67) (Operand.const (Value.bool true)) (Operand.tmp 69), type := 4, pos := "law.go:30", after := #[{ on := 19, ground := Ground.data }, { on := 21, ground := Ground.data }], guard := none },
  { dst := some 71, op := Op.move (Operand.tmp 70), type := 4, pos := "law.go:30", after := #[{ on := 22, ground := Ground.data }, { on := 19, ground := Ground.chain }], guard := none },
  { dst := some 72, op := Op.load 23 (Operand.tmp 5), type := 23, pos := "law.go:30", after := #[{ on := 23, ground := Ground.guard }], guard := some (23, false) },
  { dst := some 73, op := Op.load 23 (Operand.tmp 6), type := 23, pos := "law.go:30", after := #[{ on := 23, ground := Ground.guard }], guard := some (23, false) },
  { dst := some 74, op := Op.load 23 (Operand.tmp 7), type := 23, pos := "law.go:30", after := #[{ on := 23, ground := Ground.guard }], guard := some (23, false) },
  { dst := some 75, op := Op.call { callee := Callee.value (Operand.func 16), args := #[Operand.tmp 72, Operand.tmp 73, Operand.tmp 74], argTypes := #[23, 23, 23] }, type := 4, pos := "law.go:30", after := #[{ on := 24, ground := Ground.data }, { on := 25, ground := Ground.data }, { on := 26, ground := Ground.data }, { on := 23, ground := Ground.chain }, { on := 23, ground := Ground.guard }], guard := some (23, false) },
  { dst := some 76, op := Op.load 23 (Operand.tmp 7), type := 23, pos := "law.go:30", after := #[{ on := 23, ground := Ground.guard }], guard := some (23, false) },
  { dst := some 77, op := Op.load 23 (Operand.tmp 6), type := 23, pos := "law.go:30", after := #[{ on := 23, ground := Ground.guard }], guard := some (23, false) },
  { dst := some 78, op := Op.load 23 (Operand.tmp 5), type := 23, pos := "law.go:30", after := #[{ on := 23, ground := Ground.guard }], guard := some (23, false) },
  { dst := some 79, op := Op.call { callee := Callee.value (Operand.func 16), args := #[Operand.tmp 76, Operand.tmp 77, Operand.tmp 78], argTypes := #[23, 23, 23] }, type := 4, pos := "law.go:30", after := #[{ on := 28, ground := Ground.data }, { on := 29, ground := Ground.data }, { on := 30, ground := Ground.data }, { on := 27, ground := Ground.chain }, { on := 23, ground := Ground.guard }], guard := some (23, false) },
  { dst := some 80, op := Op.binOp BinOp.neq 4 (Operand.tmp 75) (Operand.tmp 79) 4, type := 4, pos := "law.go:30", after := #[{ on := 27, ground := Ground.data }, { on := 31, ground := Ground.data }, { on := 23, ground := Ground.guard }], guard := some (23, false) },
  { dst := some 81, op := Op.pick (Operand.tmp 71) (Operand.const (Value.bool true)) (Operand.tmp 80), type := 4, pos := "law.go:30", after := #[{ on := 23, ground := Ground.data }, { on := 32, ground := Ground.data }], guard := none },
  { dst := some 82, op := Op.move (Operand.tmp 81), type := 4, pos := "law.go:30", after := #[{ on := 33, ground := Ground.data }, { on := 31, ground := Ground.chain }], guard := none },
  { dst := some 83, op := Op.load 23 (Operand.tmp 5), type := 23, pos := "law.go:30", after := #[{ on := 34, ground := Ground.guard }], guard := some (34, false) },
  { dst := some 84, op := Op.load 23 (Operand.tmp 6), type := 23, pos := "law.go:30", after := #[{ on := 34, ground := Ground.guard }], guard := some (34, false) },
  { dst := some 85, op := Op.load 23 (Operand.tmp 7), type := 23, pos := "law.go:30", after := #[{ on := 34, ground := Ground.guard }], guard := some (34, false) },
  { dst := some 86, op := Op.call { callee := Callee.value (Operand.func 16), args := #[Operand.tmp 83, Operand.tmp 84, Operand.tmp 85], argTypes := #[23, 23, 23] }, type := 4, pos := "law.go:30", after := #[{ on := 35, ground := Ground.data }, { on := 36, ground := Ground.data }, { on := 37, ground := Ground.data }, { on := 34, ground := Ground.chain }, { on := 34, ground := Ground.guard }], guard := some (34, false) },
  { dst := some 87, op := Op.move (Operand.tmp 86), type := 4, pos := "law.go:30", after := #[{ on := 38, ground := Ground.data }, { on := 38, ground := Ground.chain }, { on := 34, ground := Ground.guard }], guard := some (34, false) },
  { dst := some 88, op := Op.move (Operand.tmp 11), type := 3, pos := "law.go:30", after := #[{ on := 39, ground := Ground.guard }], guard := some (39, true) },
  { dst := some 89, op := Op.binOp BinOp.neq 3 (Operand.tmp 88) (Operand.const (Value.int IntKind.i64 0)) 3, type := 4, pos := "law.go:30", after := #[{ on := 40, ground := Ground.data }, { on := 39, ground := Ground.guard }], guard := some (39, true) },
  { dst := some 90, op := Op.pick (Operand.tmp 87) (Operand.tmp 89) (Operand.const (Value.bool false)), type := 4, pos := "law.go:30", after := #[{ on := 39, ground := Ground.data }, { on := 41, ground := Ground.data }, { on := 34, ground := Ground.guard }], guard := some (34, false) },
  { dst := some 91, op := Op.pick (Operand.tmp 82) (Operand.const (Value.bool true)) (Operand.tmp 90), type := 4, pos := "law.go:30", after := #[{ on := 34, ground := Ground.data }, { on := 42, ground := Ground.data }], guard := none },
  { dst := some 92, op := Op.move (Operand.tmp 91), type := 4, pos := "law.go:30", after := #[{ on := 43, ground := Ground.data }, { on := 39, ground := Ground.chain }], guard := none },
  { dst := some 93, op := Op.load 23 (Operand.tmp 5), type := 23, pos := "law.go:30", after := #[{ on := 44, ground := Ground.guard }], guard := some (44, false) },
  { dst := some 94, op := Op.load 23 (Operand.tmp 5), type := 23, pos := "law.go:30", after := #[{ on := 44, ground := Ground.guard }], guard := some (44, false) },
  { dst := some 95, op := Op.load 23 (Operand.tmp 7), type := 23, pos := "law.go:30", after := #[{ on := 44, ground := Ground.guard }], guard := some (44, false) },
  { dst := some 96, op := Op.call { callee := Callee.value (Operand.func 16), args := #[Operand.tmp 93, Operand.tmp 94, Operand.tmp 95], argTypes := #[23, 23, 23] }, type := 4, pos := "law.go:30", after := #[{ on := 45, ground := Ground.data }, { on := 46, ground := Ground.data }, { on := 47, ground := Ground.data }, { on := 44, ground := Ground.chain }, { on := 44, ground := Ground.guard }], guard := some (44, false) },
  { dst := some 97, op := Op.unOp UnOp.not 4 (Operand.tmp 96), type := 4, pos := "law.go:30", after := #[{ on := 48, ground := Ground.data }, { on := 44, ground := Ground.guard }], guard := some (44, false) },
  { dst := some 98, op := Op.pick (Operand.tmp 92) (Operand.const (Value.bool true)) (Operand.tmp 97), type := 4, pos := "law.go:30", after := #[{ on := 44, ground := Ground.data }, { on := 49, ground := Ground.data }], guard := none }]
def vals6 (a1 a2 b1 b2 c1 c2 T : Int) : List (Nat × Value) := [(48, .agg (V2 b1 b2)), (49, .agg (V2 c1 c2)), (50, .agg (V2 a1 a2)), (51, .int .i64 T), (52, .int .i64 T), (53, .bool false), (54, .bool false), (55, .agg (V2 c1 c2)), (56, .agg (V2 b1 b2)), (57, .agg (V2 a1 a2)), (58, .int .i64 (-T)), (59, .int .i64 T), (60, .int .i64 (-T)), (61, .bool false), (62, .bool false), (63, .bool false), (64, .int .i64 T), (65, .bool false), (66, .bool false), (67, .bool false), (68, .int .i64 T), (69, .bool false), (70, .bool false), (71, .bool false), (72, .agg (V2 a1 a2)), (73, .agg (V2 b1 b2)), (74, .agg (V2 c1 c2)), (75, .bool false), (76, .agg (V2 c1 c2)), (77, .agg (V2 b1 b2)), (78, .agg (V2 a1 a2)), (79, .bool false), (80, .bool false), (81, .bool false), (82, .bool false), (83, .agg (V2 a1 a2)), (84, .agg (V2 b1 b2)), (85, .agg (V2 c1 c2)), (86, .bool false), (87, .bool false), (88, undef), (89, undef), (90, .bool false), (91, .bool false), (92, .bool false), (93, .agg (V2 a1 a2)), (94, .agg (V2 a1 a2)), (95, .agg (V2 c1 c2)), (96, .bool true), (97, .bool false), (98, .bool false)]
structure S6 (tm : Array Value) (w0 : World) (ga gb gc : Nat) (a1 a2 b1 b2 c1 c2 T : Int) (L : Nat → Bool) (t : Array Value) (w : World) : Prop where
  frm : Reg.Frm tm t ((vals6 a1 a2 b1 b2 c1 c2 T).map (·.1))
  inv : BI w0 w
  ba : Blk w ga 23 (V2 a1 a2)
  bb : Blk w gb 23 (V2 b1 b2)
  bc : Blk w gc 23 (V2 c1 c2)
  at_ : ∀ i v, (vals6 a1 a2 b1 b2 c1 c2 T)[i]? = some v → L i = true → t[v.1]? = some v.2
theorem dst_lt {a1 a2 b1 b2 c1 c2 T : Int} {i : Nat} {v : Nat × Value} (h : (vals6 a1 a2 b1 b2 c1 c2 T)[i]? = some v) : v.1 = 48 + i ∧ i < 51 := by
  have hi : i < 51 := (List.getElem?_eq_some_iff.1 h).1
  have : ∀ i, i < 51 → ((vals6 a1 a2 b1 b2 c1 c2 T)[i]?).map (·.1) = some (48 + i) := by
    intro i hi
    have hc : i = 0 ∨ i = 1 ∨ i = 2 ∨ i = 3 ∨ i = 4 ∨ i = 5 ∨ i = 6 ∨ i = 7 ∨ i = 8 ∨ i = 9 ∨ i = 10 ∨ i = 11 ∨ i = 12 ∨ i = 13 ∨ i = 14 ∨ i = 15 ∨ i = 16 ∨ i = 17 ∨ i = 18 ∨ i = 19 ∨ i = 20 ∨ i = 21 ∨ i = 22 ∨ i = 23 ∨ i = 24 ∨ i = 25 ∨ i = 26 ∨ i = 27 ∨ i = 28 ∨ i = 29 ∨ i = 30 ∨ i = 31 ∨ i = 32 ∨ i = 33 ∨ i = 34 ∨ i = 35 ∨ i = 36 ∨ i = 37 ∨ i = 38 ∨ i = 39 ∨ i = 40 ∨ i = 41 ∨ i = 42 ∨ i = 43 ∨ i = 44 ∨ i = 45 ∨ i = 46 ∨ i = 47 ∨ i = 48 ∨ i = 49 ∨ i = 50 := by omega
    rcases hc with rfl | rfl | rfl | rfl | rfl | rfl | rfl | rfl | rfl | rfl | rfl | rfl | rfl | rfl | rfl | rfl | rfl | rfl | rfl | rfl | rfl | rfl | rfl | rfl | rfl | rfl | rfl | rfl | rfl | rfl | rfl | rfl | rfl | rfl | rfl | rfl | rfl | rfl | rfl | rfl | rfl | rfl | rfl | rfl | rfl | rfl | rfl | rfl | rfl | rfl | rfl <;> rfl
  have := this i hi
  rw [h] at this
  simp at this
  exact ⟨this, hi⟩
theorem S6.put {tm : Array Value} {w0 w w' : World} {ga gb gc : Nat} {a1 a2 b1 b2 c1 c2 T : Int} {L : Nat → Bool} {t : Array Value} (h : S6 tm w0 ga gb gc a1 a2 b1 b2 c1 c2 T L t w) {i d : Nat} {v : Value} (hv : (vals6 a1 a2 b1 b2 c1 c2 T)[i]? = some (d, v)) (hsz : 98 < tm.size)
    (hi : BI w0 w') (ha : Blk w' ga 23 (V2 a1 a2)) (hb : Blk w' gb 23 (V2 b1 b2)) (hc : Blk w' gc 23 (V2 c1 c2)) : S6 tm w0 ga gb gc a1 a2 b1 b2 c1 c2 T (Reg.upd L i) (t.setIfInBounds d v) w' where
  frm := h.frm.put (List.mem_map.2 ⟨(d, v), List.mem_of_getElem? hv, rfl⟩) v
  inv := hi
  ba := ha
  bb := hb
  bc := hc
  at_ := fun j u hu hL => by
    have d1 := dst_lt hv; have d2 := dst_lt hu
    simp only at d1
    by_cases hj : j = i
    · subst hj
      rw [hv] at hu
      obtain rfl := Option.some.inj hu
      exact Reg.put_at' _ (by rw [h.frm.1]; omega)
    · rw [Reg.put_ne (by omega)]
      exact h.at_ j u hu (by rw [Reg.upd_at, if_neg hj] at hL; exact hL)
set_option maxRecDepth 100000 in
set_option maxHeartbeats 8000000 in
theorem reg6 {id : Nat} (tm : Array Value) (w0 w : World) (ga gb gc : Nat) (a1 a2 b1 b2 c1 c2 T : Int) {Q : Exit → Act → World → Prop} (hsz : 98 < tm.size)
    (h5 : tm[5]? = some (.pointer (some ⟨ga, 0, none⟩))) (h6 : tm[6]? = some (.pointer (some ⟨gb, 0, none⟩))) (h7 : tm[7]? = some (.pointer (some ⟨gc, 0, none⟩))) (h11 : tm[11]? = some (.int .i64 T))
    (ht1 : ∀ w, Calls Try.prog 15 #[.agg (V2 b1 b2), .agg (V2 c1 c2), .agg (V2 a1 a2)] w fun e w' => e = .returned (.int .i64 T) ∧ Below w.heap.size w w')
    (ht2 : ∀ w, Calls Try.prog 15 #[.agg (V2 c1 c2), .agg (V2 b1 b2), .agg (V2 a1 a2)] w fun e w' => e = .returned (.int .i64 (-T)) ∧ Below w.heap.size w w')
    (hk1 : ∀ w, Calls Try.prog 16 #[.agg (V2 a1 a2), .agg (V2 b1 b2), .agg (V2 c1 c2)] w fun e w' => e = .returned (.bool false) ∧ Below w.heap.size w w')
    (hk2 : ∀ w, Calls Try.prog 16 #[.agg (V2 c1 c2), .agg (V2 b1 b2), .agg (V2 a1 a2)] w fun e w' => e = .returned (.bool false) ∧ Below w.heap.size w w')
    (hk3 : ∀ w, Calls Try.prog 16 #[.agg (V2 a1 a2), .agg (V2 a1 a2), .agg (V2 c1 c2)] w fun e w' => e = .returned (.bool true) ∧ Below w.heap.size w w')
    (tw : IntKind.i64.wrap (-T) = -T) (n1 : (T != T) = false) (n2 : (-T != -T) = false) (n3 : decide (T < -1) = false) (n4 : decide (1 < T) = false)
    (hi : BI w0 w) (ha : Blk w ga 23 (V2 a1 a2)) (hb : Blk w gb 23 (V2 b1 b2)) (hc : Blk w gc 23 (V2 c1 c2))
    (hQ : ∀ (w' : World), BI w0 w' → Blk w' ga 23 (V2 a1 a2) → Blk w' gb 23 (V2 b1 b2) → Blk w' gc 23 (V2 c1 c2) → Q .normal { tmps := (vals6 a1 a2 b1 b2 c1 c2 T).foldl (fun s k => s.setIfInBounds k.1 k.2) tm, defers := [] } w') :
    (Code.region id ops6.toArray true).wp Try.prog Q { tmps := tm, defers := [] } w := by
  refine Reg.region_inv (by kernel_rfl) (by decide +kernel) (fun L a w => a.defers = [] ∧ S6 tm w0 ga gb gc a1 a2 b1 b2 c1 c2 T L a.tmps w) ?_ ?_ ?_
  · exact ⟨rfl, { frm := Reg.Frm.refl _ _, inv := hi.drew, ba := ha.drew, bb := hb.drew, bc := hc.drew, at_ := fun _ _ _ e => (Bool.false_ne_true e).elim }⟩
  · intro L a wx i o ho hL hd hI
    obtain ⟨hdf, h⟩ := hI
    have hi51 : i < 51 := (List.getElem?_eq_some_iff.1 ho).1
    clear hQ hi ha hb hc
    have hcs : i = 0 ∨ i = 1 ∨ i = 2 ∨ i = 3 ∨ i = 4 ∨ i = 5 ∨ i = 6 ∨ i = 7 ∨ i = 8 ∨ i = 9 ∨ i = 10 ∨ i = 11 ∨ i = 12 ∨ i = 13 ∨ i = 14 ∨ i = 15 ∨ i = 16 ∨ i = 17 ∨ i = 18 ∨ i = 19 ∨ i = 20 ∨ i = 21 ∨ i = 22 ∨ i = 23 ∨ i = 24 ∨ i = 25 ∨ i = 26 ∨ i = 27 ∨ i = 28 ∨ i = 29 ∨ i = 30 ∨ i = 31 ∨ i = 32 ∨ i = 33 ∨ i = 34 ∨ i = 35 ∨ i = 36 ∨ i = 37 ∨ i = 38 ∨ i = 39 ∨ i = 40 ∨ i = 41 ∨ i = 42 ∨ i = 43 ∨ i = 44 ∨ i = 45 ∨ i = 46 ∨ i = 47 ∨ i = 48 ∨ i = 49 ∨ i = 50 := by omega
    rcases hcs with rfl | rfl | rfl | rfl | rfl | rfl | rfl | rfl | rfl | rfl | rfl | rfl | rfl | rfl | rfl | rfl | rfl | rfl | rfl | rfl | rfl | rfl | rfl | rfl | rfl | rfl | rfl | rfl | rfl | rfl | rfl | rfl | rfl | rfl | rfl | rfl | rfl | rfl | rfl | rfl | rfl | rfl | rfl | rfl | rfl | rfl | rfl | rfl | rfl | rfl | rfl
    · refine wpOp_step (show ops6.toArray[_]? = some o by rw [List.getElem?_toArray]; exact ho) fun K hK => ?_
      simp only [ops6, List.getElem?_cons_zero, Option.some.injEq] at ho
      subst ho
      rw [if_pos (want_no rfl)]
      refine wp_load_row 23 (.tmp 6) rfl gb (Reg.eval_at (h.frm.get h6 (by simp [vals6]))) _ _ _ _ h.bb Try.underlying23 rfl (by kernel_rfl) (hK _ _ ?_)
      exact ⟨by first | exact hdf | rfl, h.put (i := 0) (d := 48) rfl hsz h.inv h.ba h.bb h.bc⟩
    · refine wpOp_step (show ops6.toArray[_]? = some o by rw [List.getElem?_toArray]; exact ho) fun K hK => ?_
      simp only [ops6, List.getElem?_cons_succ, List.getElem?_cons_zero, Option.some.injEq] at ho
      subst ho
      rw [if_pos (want_no rfl)]
      refine wp_load_row 23 (.tmp 7) rfl gc (Reg.eval_at (h.frm.get h7 (by simp [vals6]))) _ _ _ _ h.bc Try.underlying23 rfl (by kernel_rfl) (hK _ _ ?_)
      exact ⟨by first | exact hdf | rfl, h.put (i := 1) (d := 49) rfl hsz h.inv h.ba h.bb h.bc⟩
    · refine wpOp_step (show ops6.toArray[_]? = some o by rw [List.getElem?_toArray]; exact ho) fun K hK => ?_
      simp only [ops6, List.getElem?_cons_succ, List.getElem?_cons_zero, Option.some.injEq] at ho
      subst ho
      rw [if_pos (want_no rfl)]
      refine wp_load_row 23 (.tmp 5) rfl ga (Reg.eval_at (h.frm.get h5 (by simp [vals6]))) _ _ _ _ h.ba Try.underlying23 rfl (by kernel_rfl) (hK _ _ ?_)
      exact ⟨by first | exact hdf | rfl, h.put (i := 2) (d := 50) rfl hsz h.inv h.ba h.bb h.bc⟩
    · refine wpOp_step (show ops6.toArray[_]? = some o by rw [List.getElem?_toArray]; exact ho) fun K hK => ?_
      simp only [ops6, List.getElem?_cons_succ, List.getElem?_cons_zero, Option.some.injEq] at ho
      subst ho
      have p0 : a.tmps[48]? = some (.agg (V2 b1 b2)) := h.at_ 0 (48, _) rfl (hd ⟨0, .data⟩ (by simp) rfl)
      have p1 : a.tmps[49]? = some (.agg (V2 c1 c2)) := h.at_ 1 (49, _) rfl (hd ⟨1, .data⟩ (by simp) rfl)
      have p2 : a.tmps[50]? = some (.agg (V2 a1 a2)) := h.at_ 2 (50, _) rfl (hd ⟨2, .data⟩ (by simp) rfl)
      rw [if_pos (want_no rfl)]
      go_simp
      refine (ht1 _).mono ?_
      rintro e w1 ⟨rfl, hb⟩
      exact hK _ _ ⟨by first | exact hdf | rfl, h.put (i := 3) (d := 51) rfl hsz (h.inv.call hb) (h.ba.below hb h.ba.lt) (h.bb.below hb h.bb.lt) (h.bc.below hb h.bc.lt)⟩
    · refine wpOp_step (show ops6.toArray[_]? = some o by rw [List.getElem?_toArray]; exact ho) fun K hK => ?_
      simp only [ops6, List.getElem?_cons_succ, List.getElem?_cons_zero, Option.some.injEq] at ho
      subst ho
      rw [if_pos (want_no rfl)]
      have ev : a.eval (.tmp 11) = .int .i64 T := Reg.eval_at (h.frm.get h11 (by simp [vals6]))
      unfold Oper.wp execOp
      simp only [ev, Sem.run_pure, Oper.upon]
      exact hK _ _ ⟨by first | exact hdf | rfl, h.put (i := 4) (d := 52) rfl hsz h.inv h.ba h.bb h.bc⟩
    · refine wpOp_step (show ops6.toArray[_]? = some o by rw [List.getElem?_toArray]; exact ho) fun K hK => ?_
      simp only [ops6, List.getElem?_cons_succ, List.getElem?_cons_zero, Option.some.injEq] at ho
      subst ho
      have p3 : a.tmps[51]? = some (.int .i64 T) := h.at_ 3 (51, _) rfl (hd ⟨3, .data⟩ (by simp) rfl)
      have p4 : a.tmps[52]? = some (.int .i64 T) := h.at_ 4 (52, _) rfl (hd ⟨4, .data⟩ (by simp) rfl)
      rw [if_pos (want_no rfl)]
      go_simp
      first
        | exact hK _ _ ⟨by first | exact hdf | rfl, h.put (i := 5) (d := 53) rfl hsz h.inv h.ba h.bb h.bc⟩
        | (rw [n1]; exact hK _ _ ⟨by first | exact hdf | rfl, h.put (i := 5) (d := 53) rfl hsz h.inv h.ba h.bb h.bc⟩)
        | (rw [n2]; exact hK _ _ ⟨by first | exact hdf | rfl, h.put (i := 5) (d := 53) rfl hsz h.inv h.ba h.bb h.bc⟩)
        | (rw [n3]; exact hK _ _ ⟨by first | exact hdf | rfl, h.put (i := 5) (d := 53) rfl hsz h.inv h.ba h.bb h.bc⟩)
        | (rw [n4]; exact hK _ _ ⟨by first | exact hdf | rfl, h.put (i := 5) (d := 53) rfl hsz h.inv h.ba h.bb h.bc⟩)
    · refine wpOp_step (show ops6.toArray[_]? = some o by rw [List.getElem?_toArray]; exact ho) fun K hK => ?_
      simp only [ops6, List.getElem?_cons_succ, List.getElem?_cons_zero, Option.some.injEq] at ho
      subst ho
      have p5 : a.tmps[53]? = some (.bool false) := h.at_ 5 (53, _) rfl (hd ⟨5, .data⟩ (by simp) rfl)
      have p3 : a.tmps[51]? = some (.int .i64 T) := h.at_ 3 (51, _) rfl (hd ⟨3, .chain⟩ (by simp) rfl)
      rw [if_pos (want_no rfl)]
      have ev : a.eval (.tmp 53) = .bool false := Reg.eval_at p5
      unfold Oper.wp execOp
      simp only [ev, Sem.run_pure, Oper.upon]
      exact hK _ _ ⟨by first | exact hdf | rfl, h.put (i := 6) (d := 54) rfl hsz h.inv h.ba h.bb h.bc⟩
    · refine wpOp_step (show ops6.toArray[_]? = some o by rw [List.getElem?_toArray]; exact ho) fun K hK => ?_
      simp only [ops6, List.getElem?_cons_succ, List.getElem?_cons_zero, Option.some.injEq] at ho
      subst ho
      have p6 : a.tmps[54]? = some (.bool false) := h.at_ 6 (54, _) rfl (hd ⟨6, .guard⟩ (by simp) rfl)
      rw [if_pos (by rw [want_at rfl (yield_at (g := 6) (b := false) rfl rfl p6)]; rfl)]
      refine wp_load_row 23 (.tmp 7) rfl gc (Reg.eval_at (h.frm.get h7 (by simp [vals6]))) _ _ _ _ h.bc Try.underlying23 rfl (by kernel_rfl) (hK _ _ ?_)
      exact ⟨by first | exact hdf | rfl, h.put (i := 7) (d := 55) rfl hsz h.inv h.ba h.bb h.bc⟩
    · refine wpOp_step (show ops6.toArray[_]? = some o by rw [List.getElem?_toArray]; exact ho) fun K hK => ?_
      simp only [ops6, List.getElem?_cons_succ, List.getElem?_cons_zero, Option.some.injEq] at ho
      subst ho
      have p6 : a.tmps[54]? = some (.bool false) := h.at_ 6 (54, _) rfl (hd ⟨6, .guard⟩ (by simp) rfl)
      rw [if_pos (by rw [want_at rfl (yield_at (g := 6) (b := false) rfl rfl p6)]; rfl)]
      refine wp_load_row 23 (.tmp 6) rfl gb (Reg.eval_at (h.frm.get h6 (by simp [vals6]))) _ _ _ _ h.bb Try.underlying23 rfl (by kernel_rfl) (hK _ _ ?_)
      exact ⟨by first | exact hdf | rfl, h.put (i := 8) (d := 56) rfl hsz h.inv h.ba h.bb h.bc⟩
    · refine wpOp_step (show ops6.toArray[_]? = some o by rw [List.getElem?_toArray]; exact ho) fun K hK => ?_
      simp only [ops6, List.getElem?_cons_succ, List.getElem?_cons_zero, Option.some.injEq] at ho
      subst ho
      have p6 : a.tmps[54]? = some (.bool false) := h.at_ 6 (54, _) rfl (hd ⟨6, .guard⟩ (by simp) rfl)
      rw [if_pos (by rw [want_at rfl (yield_at (g := 6) (b := false) rfl rfl p6)]; rfl)]
      refine wp_load_row 23 (.tmp 5) rfl ga (Reg.eval_at (h.frm.get h5 (by simp [vals6]))) _ _ _ _ h.ba Try.underlying23 rfl (by kernel_rfl) (hK _ _ ?_)
      exact ⟨by first | exact hdf | rfl, h.put (i := 9) (d := 57) rfl hsz h.inv h.ba h.bb h.bc⟩
    · refine wpOp_step (show ops6.toArray[_]? = some o by rw [List.getElem?_toArray]; exact ho) fun K hK => ?_
      simp only [ops6, List.getElem?_cons_succ, List.getElem?_cons_zero, Option.some.injEq] at ho
      subst ho
      have p7 : a.tmps[55]? = some (.agg (V2 c1 c2)) := h.at_ 7 (55, _) rfl (hd ⟨7, .data⟩ (by simp) rfl)
      have p8 : a.tmps[56]? = some (.agg (V2 b1 b2)) := h.at_ 8 (56, _) rfl (hd ⟨8, .data⟩ (by simp) rfl)
      have p9 : a.tmps[57]? = some (.agg (V2 a1 a2)) := h.at_ 9 (57, _) rfl (hd ⟨9, .data⟩ (by simp) rfl)
      have p6 : a.tmps[54]? = some (.bool false) := h.at_ 6 (54, _) rfl (hd ⟨6, .chain⟩ (by simp) rfl)
      rw [if_pos (by rw [want_at rfl (yield_at (g := 6) (b := false) rfl rfl p6)]; rfl)]
      go_simp
      refine (ht2 _).mono ?_
      rintro e w1 ⟨rfl, hb⟩
      exact hK _ _ ⟨by first | exact hdf | rfl, h.put (i := 10) (d := 58) rfl hsz (h.inv.call hb) (h.ba.below hb h.ba.lt) (h.bb.below hb h.bb.lt) (h.bc.below hb h.bc.lt)⟩
    · refine wpOp_step (show ops6.toArray[_]? = some o by rw [List.getElem?_toArray]; exact ho) fun K hK => ?_
      simp only [ops6, List.getElem?_cons_succ, List.getElem?_cons_zero, Option.some.injEq] at ho
      subst ho
      have p6 : a.tmps[54]? = some (.bool false) := h.at_ 6 (54, _) rfl (hd ⟨6, .guard⟩ (by simp) rfl)
      rw [if_pos (by rw [want_at rfl (yield_at (g := 6) (b := false) rfl rfl p6)]; rfl)]
      have ev : a.eval (.tmp 11) = .int .i64 T := Reg.eval_at (h.frm.get h11 (by simp [vals6]))
      unfold Oper.wp execOp
      simp only [ev, Sem.run_pure, Oper.upon]
      exact hK _ _ ⟨by first | exact hdf | rfl, h.put (i := 11) (d := 59) rfl hsz h.inv h.ba h.bb h.bc⟩
    · refine wpOp_step (show ops6.toArray[_]? = some o by rw [List.getElem?_toArray]; exact ho) fun K hK => ?_
      simp only [ops6, List.getElem?_cons_succ, List.getElem?_cons_zero, Option.some.injEq] at ho
      subst ho
      have p11 : a.tmps[59]? = some (.int .i64 T) := h.at_ 11 (59, _) rfl (hd ⟨11, .data⟩ (by simp) rfl)
      have p6 : a.tmps[54]? = some (.bool false) := h.at_ 6 (54, _) rfl (hd ⟨6, .guard⟩ (by simp) rfl)
      rw [if_pos (by rw [want_at rfl (yield_at (g := 6) (b := false) rfl rfl p6)]; rfl)]
      go_simp
      first
        | exact hK _ _ ⟨by first | exact hdf | rfl, h.put (i := 12) (d := 60) rfl hsz h.inv h.ba h.bb h.bc⟩
        | (rw [n1]; exact hK _ _ ⟨by first | exact hdf | rfl, h.put (i := 12) (d := 60) rfl hsz h.inv h.ba h.bb h.bc⟩)
        | (rw [n2]; exact hK _ _ ⟨by first | exact hdf | rfl, h.put (i := 12) (d := 60) rfl hsz h.inv h.ba h.bb h.bc⟩)
        | (rw [n3]; exact hK _ _ ⟨by first | exact hdf | rfl, h.put (i := 12) (d := 60) rfl hsz h.inv h.ba h.bb h.bc⟩)
        | (rw [n4]; exact hK _ _ ⟨by first | exact hdf | rfl, h.put (i := 12) (d := 60) rfl hsz h.inv h.ba h.bb h.bc⟩)
    · refine wpOp_step (show ops6.toArray[_]? = some o by rw [List.getElem?_toArray]; exact ho) fun K hK => ?_
      simp only [ops6, List.getElem?_cons_succ, List.getElem?_cons_zero, Option.some.injEq] at ho
      subst ho
      have p10 : a.tmps[58]? = some (.int .i64 (-T)) := h.at_ 10 (58, _) rfl (hd ⟨10, .data⟩ (by simp) rfl)
      have p12 : a.tmps[60]? = some (.int .i64 (-T)) := h.at_ 12 (60, _) rfl (hd ⟨12, .data⟩ (by simp) rfl)
      have p6 : a.tmps[54]? = some (.bool false) := h.at_ 6 (54, _) rfl (hd ⟨6, .guard⟩ (by simp) rfl)
      rw [if_pos (by rw [want_at rfl (yield_at (g := 6) (b := false) rfl rfl p6)]; rfl)]
      go_simp
      first
        | exact hK _ _ ⟨by first | exact hdf | rfl, h.put (i := 13) (d := 61) rfl hsz h.inv h.ba h.bb h.bc⟩
        | (rw [n1]; exact hK _ _ ⟨by first | exact hdf | rfl, h.put (i := 13) (d := 61) rfl hsz h.inv h.ba h.bb h.bc⟩)
        | (rw [n2]; exact hK _ _ ⟨by first | exact hdf | rfl, h.put (i := 13) (d := 61) rfl hsz h.inv h.ba h.bb h.bc⟩)
        | (rw [n3]; exact hK _ _ ⟨by first | exact hdf | rfl, h.put (i := 13) (d := 61) rfl hsz h.inv h.ba h.bb h.bc⟩)
        | (rw [n4]; exact hK _ _ ⟨by first | exact hdf | rfl, h.put (i := 13) (d := 61) rfl hsz h.inv h.ba h.bb h.bc⟩)
    · refine wpOp_step (show ops6.toArray[_]? = some o by rw [List.getElem?_toArray]; exact ho) fun K hK => ?_
      simp only [ops6, List.getElem?_cons_succ, List.getElem?_cons_zero, Option.some.injEq] at ho
      subst ho
      have p6 : a.tmps[54]? = some (.bool false) := h.at_ 6 (54, _) rfl (hd ⟨6, .data⟩ (by simp) rfl)
      have p13 : a.tmps[61]? = some (.bool false) := h.at_ 13 (61, _) rfl (hd ⟨13, .data⟩ (by simp) rfl)
      rw [if_pos (want_no rfl)]
      go_simp
      first
        | exact hK _ _ ⟨by first | exact hdf | rfl, h.put (i := 14) (d := 62) rfl hsz h.inv h.ba h.bb h.bc⟩
        | (rw [n1]; exact hK _ _ ⟨by first | exact hdf | rfl, h.put (i := 14) (d := 62) rfl hsz h.inv h.ba h.bb h.bc⟩)
        | (rw [n2]; exact hK _ _ ⟨by first | exact hdf | rfl, h.put (i := 14) (d := 62) rfl hsz h.inv h.ba h.bb h.bc⟩)
        | (rw [n3]; exact hK _ _ ⟨by first | exact hdf | rfl, h.put (i := 14) (d := 62) rfl hsz h.inv h.ba h.bb h.bc⟩)
        | (rw [n4]; exact hK _ _ ⟨by first | exact hdf | rfl, h.put (i := 14) (d := 62) rfl hsz h.inv h.ba h.bb h.bc⟩)
    · refine wpOp_step (show ops6.toArray[_]? = some o by rw [List.getElem?_toArray]; exact ho) fun K hK => ?_
      simp only [ops6, List.getElem?_cons_succ, List.getElem?_cons_zero, Option.some.injEq] at ho
      subst ho
      have p14 : a.tmps[62]? = some (.bool false) := h.at_ 14 (62, _) rfl (hd ⟨14, .data⟩ (by simp) rfl)
      have p10 : a.tmps[58]? = some (.int .i64 (-T)) := h.at_ 10 (58, _) rfl (hd ⟨10, .chain⟩ (by simp) rfl)
      rw [if_pos (want_no rfl)]
      have ev : a.eval (.tmp 62) = .bool false := Reg.eval_at p14
      unfold Oper.wp execOp
      simp only [ev, Sem.run_pure, Oper.upon]
      exact hK _ _ ⟨by first | exact hdf | rfl, h.put (i := 15) (d := 63) rfl hsz h.inv h.ba h.bb h.bc⟩
    · refine wpOp_step (show ops6.toArray[_]? = some o by rw [List.getElem?_toArray]; exact ho) fun K hK => ?_
      simp only [ops6, List.getElem?_cons_succ, List.getElem?_cons_zero, Option.some.injEq] at ho
      subst ho
      have p15 : a.tmps[63]? = some (.bool false) := h.at_ 15 (63, _) rfl (hd ⟨15, .guard⟩ (by simp) rfl)
      rw [if_pos (by rw [want_at rfl (yield_at (g := 15) (b := false) rfl rfl p15)]; rfl)]
      have ev : a.eval (.tmp 11) = .int .i64 T := Reg.eval_at (h.frm.get h11 (by simp [vals6]))
      unfold Oper.wp execOp
      simp only [ev, Sem.run_pure, Oper.upon]
      exact hK _ _ ⟨by first | exact hdf | rfl, h.put (i := 16) (d := 64) rfl hsz h.inv h.ba h.bb h.bc⟩
    · refine wpOp_step (show ops6.toArray[_]? = some o by rw [List.getElem?_toArray]; exact ho) fun K hK => ?_
      simp only [ops6, List.getElem?_cons_succ, List.getElem?_cons_zero, Option.some.injEq] at ho
      subst ho
      have p16 : a.tmps[64]? = some (.int .i64 T) := h.at_ 16 (64, _) rfl (hd ⟨16, .data⟩ (by simp) rfl)
      have p15 : a.tmps[63]? = some (.bool false) := h.at_ 15 (63, _) rfl (hd ⟨15, .guard⟩ (by simp) rfl)
      rw [if_pos (by rw [want_at rfl (yield_at (g := 15) (b := false) rfl rfl p15)]; rfl)]
      go_simp
      first
        | exact hK _ _ ⟨by first | exact hdf | rfl, h.put (i := 17) (d := 65) rfl hsz h.inv h.ba h.bb h.bc⟩
        | (rw [n1]; exact hK _ _ ⟨by first | exact hdf | rfl, h.put (i := 17) (d := 65) rfl hsz h.inv h.ba h.bb h.bc⟩)
        | (rw [n2]; exact hK _ _ ⟨by first | exact hdf | rfl, h.put (i := 17) (d := 65) rfl hsz h.inv h.ba h.bb h.bc⟩)
        | (rw [n3]; exact hK _ _ ⟨by first | exact hdf | rfl, h.put (i := 17) (d := 65) rfl hsz h.inv h.ba h.bb h.bc⟩)
        | (rw [n4]; exact hK _ _ ⟨by first | exact hdf | rfl, h.put (i := 17) (d := 65) rfl hsz h.inv h.ba h.bb h.bc⟩)
    · refine wpOp_step (show ops6.toArray[_]? = some o by rw [List.getElem?_toArray]; exact ho) fun K hK => ?_
      simp only [ops6, List.getElem?_cons_succ, List.getElem?_cons_zero, Option.some.injEq] at ho
      subst ho
      have p15 : a.tmps[63]? = some (.bool false) := h.at_ 15 (63, _) rfl (hd ⟨15, .data⟩ (by simp) rfl)
      have p17 : a.tmps[65]? = some (.bool false) := h.at_ 17 (65, _) rfl (hd ⟨17, .data⟩ (by simp) rfl)
      rw [if_pos (want_no rfl)]
      go_simp
      first
        | exact hK _ _ ⟨by first | exact hdf | rfl, h.put (i := 18) (d := 66) rfl hsz h.inv h.ba h.bb h.bc⟩
        | (rw [n1]; exact hK _ _ ⟨by first | exact hdf | rfl, h.put (i := 18) (d := 66) rfl hsz h.inv h.ba h.bb h.bc⟩)
        | (rw [n2]; exact hK _ _ ⟨by first | exact hdf | rfl, h.put (i := 18) (d := 66) rfl hsz h.inv h.ba h.bb h.bc⟩)
        | (rw [n3]; exact hK _ _ ⟨by first | exact hdf | rfl, h.put (i := 18) (d := 66) rfl hsz h.inv h.ba h.bb h.bc⟩)
        | (rw [n4]; exact hK _ _ ⟨by first | exact hdf | rfl, h.put (i := 18) (d := 66) rfl hsz h.inv h.ba h.bb h.bc⟩)
    · refine wpOp_step (show ops6.toArray[_]? = some o by rw [List.getElem?_toArray]; exact ho) fun K hK => ?_
      simp only [ops6, List.getElem?_cons_succ, List.getElem?_cons_zero, Option.some.injEq] at ho
      subst ho
      have p18 : a.tmps[66]? = some (.bool false) := h.at_ 18 (66, _) rfl (hd ⟨18, .data⟩ (by simp) rfl)
      have p15 : a.tmps[63]? = some (.bool false) := h.at_ 15 (63, _) rfl (hd ⟨15, .chain⟩ (by simp) rfl)
      rw [if_pos (want_no rfl)]
      have ev : a.eval (.tmp 66) = .bool false := Reg.eval_at p18
      unfold Oper.wp execOp
      simp only [ev, Sem.run_pure, Oper.upon]
      exact hK _ _ ⟨by first | exact hdf | rfl, h.put (i := 19) (d := 67) rfl hsz h.inv h.ba h.bb h.bc⟩
    · refine wpOp_step (show ops6.toArray[_]? = some o by rw [List.getElem?_toArray]; exact ho) fun K hK => ?_
      simp only [ops6, List.getElem?_cons_succ, List.getElem?_cons_zero, Option.some.injEq] at ho
      subst ho
      have p19 : a.tmps[67]? = some (.bool false) := h.at_ 19 (67, _) rfl (hd ⟨19, .guard⟩ (by simp) rfl)
      rw [if_pos (by rw [want_at rfl (yield_at (g := 19) (b := false) rfl rfl p19)]; rfl)]
      have ev : a.eval (.tmp 11) = .int .i64 T := Reg.eval_at (h.frm.get h11 (by simp [vals6]))
      unfold Oper.wp execOp
      simp only [ev, Sem.run_pure, Oper.upon]
      exact hK _ _ ⟨by first | exact hdf | rfl, h.put (i := 20) (d := 68) rfl hsz h.inv h.ba h.bb h.bc⟩
    · refine wpOp_step (show ops6.toArray[_]? = some o by rw [List.getElem?_toArray]; exact ho) fun K hK => ?_
      simp only [ops6, List.getElem?_cons_succ, List.getElem?_cons_zero, Option.some.injEq] at ho
      subst ho
      have p20 : a.tmps[68]? = some (.int .i64 T) := h.at_ 20 (68, _) rfl (hd ⟨20, .data⟩ (by simp) rfl)
      have p19 : a.tmps[67]? = some (.bool false) := h.at_ 19 (67, _) rfl (hd ⟨19, .guard⟩ (by simp) rfl)
      rw [if_pos (by rw [want_at rfl (yield_at (g := 19) (b := false) rfl rfl p19)]; rfl)]
      go_simp
      first
        | exact hK _ _ ⟨by first | exact hdf | rfl, h.put (i := 21) (d := 69) rfl hsz h.inv h.ba h.bb h.bc⟩
        | (rw [n1]; exact hK _ _ ⟨by first | exact hdf | rfl, h.put (i := 21) (d := 69) rfl hsz h.inv h.ba h.bb h.bc⟩)
        | (rw [n2]; exact hK _ _ ⟨by first | exact hdf | rfl, h.put (i := 21) (d := 69) rfl hsz h.inv h.ba h.bb h.bc⟩)
        | (rw [n3]; exact hK _ _ ⟨by first | exact hdf | rfl, h.put (i := 21) (d := 69) rfl hsz h.inv h.ba h.bb h.bc⟩)
        | (rw [n4]; exact hK _ _ ⟨by first | exact hdf | rfl, h.put (i := 21) (d := 69) rfl hsz h.inv h.ba h.bb h.bc⟩)
    · refine wpOp_step (show ops6.toArray[_]? = some o by rw [List.getElem?_toArray]; exact ho) fun K hK => ?_
      simp only [ops6, List.getElem?_cons_succ, List.getElem?_cons_zero, Option.some.injEq] at ho
      subst ho
      have p19 : a.tmps[67]? = some (.bool false) := h.at_ 19 (67, _) rfl (hd ⟨19, .data⟩ (by simp) rfl)
      have p21 : a.tmps[69]? = some (.bool false) := h.at_ 21 (69, _) rfl (hd ⟨21, .data⟩ (by simp) rfl)
      rw [if_pos (want_no rfl)]
      go_simp
      first
        | exact hK _ _ ⟨by first | exact hdf | rfl, h.put (i := 22) (d := 70) rfl hsz h.inv h.ba h.bb h.bc⟩
        | (rw [n1]; exact hK _ _ ⟨by first | exact hdf | rfl, h.put (i := 22) (d := 70) rfl hsz h.inv h.ba h.bb h.bc⟩)
        | (rw [n2]; exact hK _ _ ⟨by first | exact hdf | rfl, h.put (i := 22) (d := 70) rfl hsz h.inv h.ba h.bb h.bc⟩)
        | (rw [n3]; exact hK _ _ ⟨by first | exact hdf | rfl, h.put (i := 22) (d := 70) rfl hsz h.inv h.ba h.bb h.bc⟩)
        | (rw [n4]; exact hK _ _ ⟨by first | exact hdf | rfl, h.put (i := 22) (d := 70) rfl hsz h.inv h.ba h.bb h.bc⟩)
    · refine wpOp_step (show ops6.toArray[_]? = some o by rw [List.getElem?_toArray]; exact ho) fun K hK => ?_
      simp only [ops6, List.getElem?_cons_succ, List.getElem?_cons_zero, Option.some.injEq] at ho
      subst ho
      have p22 : a.tmps[70]? = some (.bool false) := h.at_ 22 (70, _) rfl (hd ⟨22, .data⟩ (by simp) rfl)
      have p19 : a.tmps[67]? = some (.bool false) := h.at_ 19 (67, _) rfl (hd ⟨19, .chain⟩ (by simp) rfl)
      rw [if_pos (want_no rfl)]
      have ev : a.eval (.tmp 70) = .bool false := Reg.eval_at p22
      unfold Oper.wp execOp
      simp only [ev, Sem.run_pure, Oper.upon]
      exact hK _ _ ⟨by first | exact hdf | rfl, h.put (i := 23) (d := 71) rfl hsz h.inv h.ba h.bb h.bc⟩
    · refine wpOp_step (show ops6.toArray[_]? = some o by rw [List.getElem?_toArray]; exact ho) fun K hK => ?_
      simp only [ops6, List.getElem?_cons_succ, List.getElem?_cons_zero, Option.some.injEq] at ho
      subst ho
      have p23 : a.tmps[71]? = some (.bool false) := h.at_ 23 (71, _) rfl (hd ⟨23, .guard⟩ (by simp) rfl)
      rw [if_pos (by rw [want_at rfl (yield_at (g := 23) (b := false) rfl rfl p23)]; rfl)]
      refine wp_load_row 23 (.tmp 5) rfl ga (Reg.eval_at (h.frm.get h5 (by simp [vals6]))) _ _ _ _ h.ba Try.underlying23 rfl (by kernel_rfl) (hK _ _ ?_)
      exact ⟨by first | exact hdf | rfl, h.put (i := 24) (d := 72) rfl hsz h.inv h.ba h.bb h.bc⟩
    · refine wpOp_step (show ops6.toArray[_]? = some o by rw [List.getElem?_toArray]; exact ho) fun K hK => ?_
      simp only [ops6, List.getElem?_cons_succ, List.getElem?_cons_zero, Option.some.injEq] at ho
      subst ho
      have p23 : a.tmps[71]? = some (.bool false) := h.at_ 23 (71, _) rfl (hd ⟨23, .guard⟩ (by simp) rfl)
      rw [if_pos (by rw [want_at rfl (yield_at (g := 23) (b := false) rfl rfl p23)]; rfl)]
      refine wp_load_row 23 (.tmp 6) rfl gb (Reg.eval_at (h.frm.get h6 (by simp [vals6]))) _ _ _ _ h.bb Try.underlying23 rfl (by kernel_rfl) (hK _ _ ?_)
      exact ⟨by first | exact hdf | rfl, h.put (i := 25) (d := 73) rfl hsz h.inv h.ba h.bb h.bc⟩
    · refine wpOp_step (show ops6.toArray[_]? = some o by rw [List.getElem?_toArray]; exact ho) fun K hK => ?_
      simp only [ops6, List.getElem?_cons_succ, List.getElem?_cons_zero, Option.some.injEq] at ho
      subst ho
      have p23 : a.tmps[71]? = some (.bool false) := h.at_ 23 (71, _) rfl (hd ⟨23, .guard⟩ (by simp) rfl)
      rw [if_pos (by rw [want_at rfl (yield_at (g := 23) (b := false) rfl rfl p23)]; rfl)]
      refine wp_load_row 23 (.tmp 7) rfl gc (Reg.eval_at (h.frm.get h7 (by simp [vals6]))) _ _ _ _ h.bc Try.underlying23 rfl (by kernel_rfl) (hK _ _ ?_)
      exact ⟨by first | exact hdf | rfl, h.put (i := 26) (d := 74) rfl hsz h.inv h.ba h.bb h.bc⟩
    · refine wpOp_step (show ops6.toArray[_]? = some o by rw [List.getElem?_toArray]; exact ho) fun K hK => ?_
      simp only [ops6, List.getElem?_cons_succ, List.getElem?_cons_zero, Option.some.injEq] at ho
      subst ho
      have p24 : a.tmps[72]? = some (.agg (V2 a1 a2)) := h.at_ 24 (72, _) rfl (hd ⟨24, .data⟩ (by simp) rfl)
      have p25 : a.tmps[73]? = some (.agg (V2 b1 b2)) := h.at_ 25 (73, _) rfl (hd ⟨25, .data⟩ (by simp) rfl)
      have p26 : a.tmps[74]? = some (.agg (V2 c1 c2)) := h.at_ 26 (74, _) rfl (hd ⟨26, .data⟩ (by simp) rfl)
      have p23 : a.tmps[71]? = some (.bool false) := h.at_ 23 (71, _) rfl (hd ⟨23, .chain⟩ (by simp) rfl)
      rw [if_pos (by rw [want_at rfl (yield_at (g := 23) (b := false) rfl rfl p23)]; rfl)]
      go_simp
      refine (hk1 _).mono ?_
      rintro e w1 ⟨rfl, hb⟩
      exact hK _ _ ⟨by first | exact hdf | rfl, h.put (i := 27) (d := 75) rfl hsz (h.inv.call hb) (h.ba.below hb h.ba.lt) (h.bb.below hb h.bb.lt) (h.bc.below hb h.bc.lt)⟩
    · refine wpOp_step (show ops6.toArray[_]? = some o by rw [List.getElem?_toArray]; exact ho) fun K hK => ?_
      simp only [ops6, List.getElem?_cons_succ, List.getElem?_cons_zero, Option.some.injEq] at ho
      subst ho
      have p23 : a.tmps[71]? = some (.bool false) := h.at_ 23 (71, _) rfl (hd ⟨23, .guard⟩ (by simp) rfl)
      rw [if_pos (by rw [want_at rfl (yield_at (g := 23) (b := false) rfl rfl p23)]; rfl)]
      refine wp_load_row 23 (.tmp 7) rfl gc (Reg.eval_at (h.frm.get h7 (by simp [vals6]))) _ _ _ _ h.bc Try.underlying23 rfl (by kernel_rfl) (hK _ _ ?_)
      exact ⟨by first | exact hdf | rfl, h.put (i := 28) (d := 76) rfl hsz h.inv h.ba h.bb h.bc⟩
    · refine wpOp_step (show ops6.toArray[_]? = some o by rw [List.getElem?_toArray]; exact ho) fun K hK => ?_
      simp only [ops6, List.getElem?_cons_succ, List.getElem?_cons_zero, Option.some.injEq] at ho
      subst ho
      have p23 : a.tmps[71]? = some (.bool false) := h.at_ 23 (71, _) rfl (hd ⟨23, .guard⟩ (by simp) rfl)
      rw [if_pos (by rw [want_at rfl (yield_at (g := 23) (b := false) rfl rfl p23)]; rfl)]
      refine wp_load_row 23 (.tmp 6) rfl gb (Reg.eval_at (h.frm.get h6 (by simp [vals6]))) _ _ _ _ h.bb Try.underlying23 rfl (by kernel_rfl) (hK _ _ ?_)
      exact ⟨by first | exact hdf | rfl, h.put (i := 29) (d := 77) rfl hsz h.inv h.ba h.bb h.bc⟩
    · refine wpOp_step (show ops6.toArray[_]? = some o by rw [List.getElem?_toArray]; exact ho) fun K hK => ?_
      simp only [ops6, List.getElem?_cons_succ, List.getElem?_cons_zero, Option.some.injEq] at ho
      subst ho
      have p23 : a.tmps[71]? = some (.bool false) := h.at_ 23 (71, _) rfl (hd ⟨23, .guard⟩ (by simp) rfl)
      rw [if_pos (by rw [want_at rfl (yield_at (g := 23) (b := false) rfl rfl p23)]; rfl)]
      refine wp_load_row 23 (.tmp 5) rfl ga (Reg.eval_at (h.frm.get h5 (by simp [vals6]))) _ _ _ _ h.ba Try.underlying23 rfl (by kernel_rfl) (hK _ _ ?_)
      exact ⟨by first | exact hdf | rfl, h.put (i := 30) (d := 78) rfl hsz h.inv h.ba h.bb h.bc⟩
    · refine wpOp_step (show ops6.toArray[_]? = some o by rw [List.getElem?_toArray]; exact ho) fun K hK => ?_
      simp only [ops6, List.getElem?_cons_succ, List.getElem?_cons_zero, Option.some.injEq] at ho
      subst ho
      have p28 : a.tmps[76]? = some (.agg (V2 c1 c2)) := h.at_ 28 (76, _) rfl (hd ⟨28, .data⟩ (by simp) rfl)
      have p29 : a.tmps[77]? = some (.agg (V2 b1 b2)) := h.at_ 29 (77, _) rfl (hd ⟨29, .data⟩ (by simp) rfl)
      have p30 : a.tmps[78]? = some (.agg (V2 a1 a2)) := h.at_ 30 (78, _) rfl (hd ⟨30, .data⟩ (by simp) rfl)
      have p27 : a.tmps[75]? = some (.bool false) := h.at_ 27 (75, _) rfl (hd ⟨27, .chain⟩ (by simp) rfl)
      have p23 : a.tmps[71]? = some (.bool false) := h.at_ 23 (71, _) rfl (hd ⟨23, .guard⟩ (by simp) rfl)
      rw [if_pos (by rw [want_at rfl (yield_at (g := 23) (b := false) rfl rfl p23)]; rfl)]
      go_simp
      refine (hk2 _).mono ?_
      rintro e w1 ⟨rfl, hb⟩
      exact hK _ _ ⟨by first | exact hdf | rfl, h.put (i := 31) (d := 79) rfl hsz (h.inv.call hb) (h.ba.below hb h.ba.lt) (h.bb.below hb h.bb.lt) (h.bc.below hb h.bc.lt)⟩
    · refine wpOp_step (show ops6.toArray[_]? = some o by rw [List.getElem?_toArray]; exact ho) fun K hK => ?_
      simp only [ops6, List.getElem?_cons_succ, List.getElem?_cons_zero, Option.some.injEq] at ho
      subst ho
      have p27 : a.tmps[75]? = some (.bool false) := h.at_ 27 (75, _) rfl (hd ⟨27, .data⟩ (by simp) rfl)
      have p31 : a.tmps[79]? = some (.bool false) := h.at_ 31 (79, _) rfl (hd ⟨31, .data⟩ (by simp) rfl)
      have p23 : a.tmps[71]? = some (.bool false) := h.at_ 23 (71, _) rfl (hd ⟨23, .guard⟩ (by simp) rfl)
      rw [if_pos (by rw [want_at rfl (yield_at (g := 23) (b := false) rfl rfl p23)]; rfl)]
      go_simp
      first
        | exact hK _ _ ⟨by first | exact hdf | rfl, h.put (i := 32) (d := 80) rfl hsz h.inv h.ba h.bb h.bc⟩
        | (rw [n1]; exact hK _ _ ⟨by first | exact hdf | rfl, h.put (i := 32) (d := 80) rfl hsz h.inv h.ba h.bb h.bc⟩)
        | (rw [n2]; exact hK _ _ ⟨by first | exact hdf | rfl, h.put (i := 32) (d := 80) rfl hsz h.inv h.ba h.bb h.bc⟩)
        | (rw [n3]; exact hK _ _ ⟨by first | exact hdf | rfl, h.put (i := 32) (d := 80) rfl hsz h.inv h.ba h.bb h.bc⟩)
        | (rw [n4]; exact hK _ _ ⟨by first | exact hdf | rfl, h.put (i := 32) (d := 80) rfl hsz h.inv h.ba h.bb h.bc⟩)
    · refine wpOp_step (show ops6.toArray[_]? = some o by rw [List.getElem?_toArray]; exact ho) fun K hK => ?_
      simp only [ops6, List.getElem?_cons_succ, List.getElem?_cons_zero, Option.some.injEq] at ho
      subst ho
      have p23 : a.tmps[71]? = some (.bool false) := h.at_ 23 (71, _) rfl (hd ⟨23, .data⟩ (by simp) rfl)
      have p32 : a.tmps[80]? = some (.bool false) := h.at_ 32 (80, _) rfl (hd ⟨32, .data⟩ (by simp) rfl)
      rw [if_pos (want_no rfl)]
      go_simp
      first
        | exact hK _ _ ⟨by first | exact hdf | rfl, h.put (i := 33) (d := 81) rfl hsz h.inv h.ba h.bb h.bc⟩
        | (rw [n1]; exact hK _ _ ⟨by first | exact hdf | rfl, h.put (i := 33) (d := 81) rfl hsz h.inv h.ba h.bb h.bc⟩)
        | (rw [n2]; exact hK _ _ ⟨by first | exact hdf | rfl, h.put (i := 33) (d := 81) rfl hsz h.inv h.ba h.bb h.bc⟩)
        | (rw [n3]; exact hK _ _ ⟨by first | exact hdf | rfl, h.put (i := 33) (d := 81) rfl hsz h.inv h.ba h.bb h.bc⟩)
        | (rw [n4]; exact hK _ _ ⟨by first | exact hdf | rfl, h.put (i := 33) (d := 81) rfl hsz h.inv h.ba h.bb h.bc⟩)
    · refine wpOp_step (show ops6.toArray[_]? = some o by rw [List.getElem?_toArray]; exact ho) fun K hK => ?_
      simp only [ops6, List.getElem?_cons_succ, List.getElem?_cons_zero, Option.some.injEq] at ho
      subst ho
      have p33 : a.tmps[81]? = some (.bool false) := h.at_ 33 (81, _) rfl (hd ⟨33, .data⟩ (by simp) rfl)
      have p31 : a.tmps[79]? = some (.bool false) := h.at_ 31 (79, _) rfl (hd ⟨31, .chain⟩ (by simp) rfl)
      rw [if_pos (want_no rfl)]
      have ev : a.eval (.tmp 81) = .bool false := Reg.eval_at p33
      unfold Oper.wp execOp
      simp only [ev, Sem.run_pure, Oper.upon]
      exact hK _ _ ⟨by first | exact hdf | rfl, h.put (i := 34) (d := 82) rfl hsz h.inv h.ba h.bb h.bc⟩
    · refine wpOp_step (show ops6.toArray[_]? = some o by rw [List.getElem?_toArray]; exact ho) fun K hK => ?_
      simp only [ops6, List.getElem?_cons_succ, List.getElem?_cons_zero, Option.some.injEq] at ho
      subst ho
      have p34 : a.tmps[82]? = some (.bool false) := h.at_ 34 (82, _) rfl (hd ⟨34, .guard⟩ (by simp) rfl)
      rw [if_pos (by rw [want_at rfl (yield_at (g := 34) (b := false) rfl rfl p34)]; rfl)]
      refine wp_load_row 23 (.tmp 5) rfl ga (Reg.eval_at (h.frm.get h5 (by simp [vals6]))) _ _ _ _ h.ba Try.underlying23 rfl (by kernel_rfl) (hK _ _ ?_)
      exact ⟨by first | exact hdf | rfl, h.put (i := 35) (d := 83) rfl hsz h.inv h.ba h.bb h.bc⟩
    · refine wpOp_step (show ops6.toArray[_]? = some o by rw [List.getElem?_toArray]; exact ho) fun K hK => ?_
      simp only [ops6, List.getElem?_cons_succ, List.getElem?_cons_zero, Option.some.injEq] at ho
      subst ho
      have p34 : a.tmps[82]? = some (.bool false) := h.at_ 34 (82, _) rfl (hd ⟨34, .guard⟩ (by simp) rfl)
      rw [if_pos (by rw [want_at rfl (yield_at (g := 34) (b := false) rfl rfl p34)]; rfl)]
      refine wp_load_row 23 (.tmp 6) rfl gb (Reg.eval_at (h.frm.get h6 (by simp [vals6]))) _ _ _ _ h.bb Try.underlying23 rfl (by kernel_rfl) (hK _ _ ?_)
      exact ⟨by first | exact hdf | rfl, h.put (i := 36) (d := 84) rfl hsz h.inv h.ba h.bb h.bc⟩
    · refine wpOp_step (show ops6.toArray[_]? = some o by rw [List.getElem?_toArray]; exact ho) fun K hK => ?_
      simp only [ops6, List.getElem?_cons_succ, List.getElem?_cons_zero, Option.some.injEq] at ho
      subst ho
      have p34 : a.tmps[82]? = some (.bool false) := h.at_ 34 (82, _) rfl (hd ⟨34, .guard⟩ (by simp) rfl)
      rw [if_pos (by rw [want_at rfl (yield_at (g := 34) (b := false) rfl rfl p34)]; rfl)]
      refine wp_load_row 23 (.tmp 7) rfl gc (Reg.eval_at (h.frm.get h7 (by simp [vals6]))) _ _ _ _ h.bc Try.underlying23 rfl (by kernel_rfl) (hK _ _ ?_)
      exact ⟨by first | exact hdf | rfl, h.put (i := 37) (d := 85) rfl hsz h.inv h.ba h.bb h.bc⟩
    · refine wpOp_step (show ops6.toArray[_]? = some o by rw [List.getElem?_toArray]; exact ho) fun K hK => ?_
      simp only [ops6, List.getElem?_cons_succ, List.getElem?_cons_zero, Option.some.injEq] at ho
      subst ho
      have p35 : a.tmps[83]? = some (.agg (V2 a1 a2)) := h.at_ 35 (83, _) rfl (hd ⟨35, .data⟩ (by simp) rfl)
      have p36 : a.tmps[84]? = some (.agg (V2 b1 b2)) := h.at_ 36 (84, _) rfl (hd ⟨36, .data⟩ (by simp) rfl)
      have p37 : a.tmps[85]? = some (.agg (V2 c1 c2)) := h.at_ 37 (85, _) rfl (hd ⟨37, .data⟩ (by simp) rfl)
      have p34 : a.tmps[82]? = some (.bool false) := h.at_ 34 (82, _) rfl (hd ⟨34, .chain⟩ (by simp) rfl)
      rw [if_pos (by rw [want_at rfl (yield_at (g := 34) (b := false) rfl rfl p34)]; rfl)]
      go_simp
      refine (hk1 _).mono ?_
      rintro e w1 ⟨rfl, hb⟩
      exact hK _ _ ⟨by first | exact hdf | rfl, h.put (i := 38) (d := 86) rfl hsz (h.inv.call hb) (h.ba.below hb h.ba.lt) (h.bb.below hb h.bb.lt) (h.bc.below hb h.bc.lt)⟩
    · refine wpOp_step (show ops6.toArray[_]? = some o by rw [List.getElem?_toArray]; exact ho) fun K hK => ?_
      simp only [ops6, List.getElem?_cons_succ, List.getElem?_cons_zero, Option.some.injEq] at ho
      subst ho
      have p38 : a.tmps[86]? = some (.bool false) := h.at_ 38 (86, _) rfl (hd ⟨38, .data⟩ (by simp) rfl)
      have p34 : a.tmps[82]? = some (.bool false) := h.at_ 34 (82, _) rfl (hd ⟨34, .guard⟩ (by simp) rfl)
      rw [if_pos (by rw [want_at rfl (yield_at (g := 34) (b := false) rfl rfl p34)]; rfl)]
      have ev : a.eval (.tmp 86) = .bool false := Reg.eval_at p38
      unfold Oper.wp execOp
      simp only [ev, Sem.run_pure, Oper.upon]
      exact hK _ _ ⟨by first | exact hdf | rfl, h.put (i := 39) (d := 87) rfl hsz h.inv h.ba h.bb h.bc⟩
    · refine wpOp_step (show ops6.toArray[_]? = some o by rw [List.getElem?_toArray]; exact ho) fun K hK => ?_
      simp only [ops6, List.getElem?_cons_succ, List.getElem?_cons_zero, Option.some.injEq] at ho
      subst ho
      have p39 : a.tmps[87]? = some (.bool false) := h.at_ 39 (87, _) rfl (hd ⟨39, .guard⟩ (by simp) rfl)
      rw [if_neg (by rw [want_at rfl (yield_at (g := 39) (b := false) rfl rfl p39)]; decide)]
      exact hK _ _ ⟨by first | exact hdf | rfl, h.put (i := 40) (d := 88) rfl hsz h.inv h.ba h.bb h.bc⟩
    · refine wpOp_step (show ops6.toArray[_]? = some o by rw [List.getElem?_toArray]; exact ho) fun K hK => ?_
      simp only [ops6, List.getElem?_cons_succ, List.getElem?_cons_zero, Option.some.injEq] at ho
      subst ho
      have p40 : a.tmps[88]? = some (undef) := h.at_ 40 (88, _) rfl (hd ⟨40, .data⟩ (by simp) rfl)
      have p39 : a.tmps[87]? = some (.bool false) := h.at_ 39 (87, _) rfl (hd ⟨39, .guard⟩ (by simp) rfl)
      rw [if_neg (by rw [want_at rfl (yield_at (g := 39) (b := false) rfl rfl p39)]; decide)]
      exact hK _ _ ⟨by first | exact hdf | rfl, h.put (i := 41) (d := 89) rfl hsz h.inv h.ba h.bb h.bc⟩
    · refine wpOp_step (show ops6.toArray[_]? = some o by rw [List.getElem?_toArray]; exact ho) fun K hK => ?_
      simp only [ops6, List.getElem?_cons_succ, List.getElem?_cons_zero, Option.some.injEq] at ho
      subst ho
      have p39 : a.tmps[87]? = some (.bool false) := h.at_ 39 (87, _) rfl (hd ⟨39, .data⟩ (by simp) rfl)
      have p41 : a.tmps[89]? = some (undef) := h.at_ 41 (89, _) rfl (hd ⟨41, .data⟩ (by simp) rfl)
      have p34 : a.tmps[82]? = some (.bool false) := h.at_ 34 (82, _) rfl (hd ⟨34, .guard⟩ (by simp) rfl)
      rw [if_pos (by rw [want_at rfl (yield_at (g := 34) (b := false) rfl rfl p34)]; rfl)]
      go_simp
      first
        | exact hK _ _ ⟨by first | exact hdf | rfl, h.put (i := 42) (d := 90) rfl hsz h.inv h.ba h.bb h.bc⟩
        | (rw [n1]; exact hK _ _ ⟨by first | exact hdf | rfl, h.put (i := 42) (d := 90) rfl hsz h.inv h.ba h.bb h.bc⟩)
        | (rw [n2]; exact hK _ _ ⟨by first | exact hdf | rfl, h.put (i := 42) (d := 90) rfl hsz h.inv h.ba h.bb h.bc⟩)
        | (rw [n3]; exact hK _ _ ⟨by first | exact hdf | rfl, h.put (i := 42) (d := 90) rfl hsz h.inv h.ba h.bb h.bc⟩)
        | (rw [n4]; exact hK _ _ ⟨by first | exact hdf | rfl, h.put (i := 42) (d := 90) rfl hsz h.inv h.ba h.bb h.bc⟩)
    · refine wpOp_step (show ops6.toArray[_]? = some o by rw [List.getElem?_toArray]; exact ho) fun K hK => ?_
      simp only [ops6, List.getElem?_cons_succ, List.getElem?_cons_zero, Option.some.injEq] at ho
      subst ho
      have p34 : a.tmps[82]? = some (.bool false) := h.at_ 34 (82, _) rfl (hd ⟨34, .data⟩ (by simp) rfl)
      have p42 : a.tmps[90]? = some (.bool false) := h.at_ 42 (90, _) rfl (hd ⟨42, .data⟩ (by simp) rfl)
      rw [if_pos (want_no rfl)]
      go_simp
      first
        | exact hK _ _ ⟨by first | exact hdf | rfl, h.put (i := 43) (d := 91) rfl hsz h.inv h.ba h.bb h.bc⟩
        | (rw [n1]; exact hK _ _ ⟨by first | exact hdf | rfl, h.put (i := 43) (d := 91) rfl hsz h.inv h.ba h.bb h.bc⟩)
        | (rw [n2]; exact hK _ _ ⟨by first | exact hdf | rfl, h.put (i := 43) (d := 91) rfl hsz h.inv h.ba h.bb h.bc⟩)
        | (rw [n3]; exact hK _ _ ⟨by first | exact hdf | rfl, h.put (i := 43) (d := 91) rfl hsz h.inv h.ba h.bb h.bc⟩)
        | (rw [n4]; exact hK _ _ ⟨by first | exact hdf | rfl, h.put (i := 43) (d := 91) rfl hsz h.inv h.ba h.bb h.bc⟩)
    · refine wpOp_step (show ops6.toArray[_]? = some o by rw [List.getElem?_toArray]; exact ho) fun K hK => ?_
      simp only [ops6, List.getElem?_cons_succ, List.getElem?_cons_zero, Option.some.injEq] at ho
      subst ho
      have p43 : a.tmps[91]? = some (.bool false) := h.at_ 43 (91, _) rfl (hd ⟨43, .data⟩ (by simp) rfl)
      have p39 : a.tmps[87]? = some (.bool false) := h.at_ 39 (87, _) rfl (hd ⟨39, .chain⟩ (by simp) rfl)
      rw [if_pos (want_no rfl)]
      have ev : a.eval (.tmp 91) = .bool false := Reg.eval_at p43
      unfold Oper.wp execOp
      simp only [ev, Sem.run_pure, Oper.upon]
      exact hK _ _ ⟨by first | exact hdf | rfl, h.put (i := 44) (d := 92) rfl hsz h.inv h.ba h.bb h.bc⟩
    · refine wpOp_step (show ops6.toArray[_]? = some o by rw [List.getElem?_toArray]; exact ho) fun K hK => ?_
      simp only [ops6, List.getElem?_cons_succ, List.getElem?_cons_zero, Option.some.injEq] at ho
      subst ho
      have p44 : a.tmps[92]? = some (.bool false) := h.at_ 44 (92, _) rfl (hd ⟨44, .guard⟩ (by simp) rfl)
      rw [if_pos (by rw [want_at rfl (yield_at (g := 44) (b := false) rfl rfl p44)]; rfl)]
      refine wp_load_row 23 (.tmp 5) rfl ga (Reg.eval_at (h.frm.get h5 (by simp [vals6]))) _ _ _ _ h.ba Try.underlying23 rfl (by kernel_rfl) (hK _ _ ?_)
      exact ⟨by first | exact hdf | rfl, h.put (i := 45) (d := 93) rfl hsz h.inv h.ba h.bb h.bc⟩
    · refine wpOp_step (show ops6.toArray[_]? = some o by rw [List.getElem?_toArray]; exact ho) fun K hK => ?_
      simp only [ops6, List.getElem?_cons_succ, List.getElem?_cons_zero, Option.some.injEq] at ho
      subst ho
      have p44 : a.tmps[92]? = some (.bool false) := h.at_ 44 (92, _) rfl (hd ⟨44, .guard⟩ (by simp) rfl)
      rw [if_pos (by rw [want_at rfl (yield_at (g := 44) (b := false) rfl rfl p44)]; rfl)]
      refine wp_load_row 23 (.tmp 5) rfl ga (Reg.eval_at (h.frm.get h5 (by simp [vals6]))) _ _ _ _ h.ba Try.underlying23 rfl (by kernel_rfl) (hK _ _ ?_)
      exact ⟨by first | exact hdf | rfl, h.put (i := 46) (d := 94) rfl hsz h.inv h.ba h.bb h.bc⟩
    · refine wpOp_step (show ops6.toArray[_]? = some o by rw [List.getElem?_toArray]; exact ho) fun K hK => ?_
      simp only [ops6, List.getElem?_cons_succ, List.getElem?_cons_zero, Option.some.injEq] at ho
      subst ho
      have p44 : a.tmps[92]? = some (.bool false) := h.at_ 44 (92, _) rfl (hd ⟨44, .guard⟩ (by simp) rfl)
      rw [if_pos (by rw [want_at rfl (yield_at (g := 44) (b := false) rfl rfl p44)]; rfl)]
      refine wp_load_row 23 (.tmp 7) rfl gc (Reg.eval_at (h.frm.get h7 (by simp [vals6]))) _ _ _ _ h.bc Try.underlying23 rfl (by kernel_rfl) (hK _ _ ?_)
      exact ⟨by first | exact hdf | rfl, h.put (i := 47) (d := 95) rfl hsz h.inv h.ba h.bb h.bc⟩
    · refine wpOp_step (show ops6.toArray[_]? = some o by rw [List.getElem?_toArray]; exact ho) fun K hK => ?_
      simp only [ops6, List.getElem?_cons_succ, List.getElem?_cons_zero, Option.some.injEq] at ho
      subst ho
      have p45 : a.tmps[93]? = some (.agg (V2 a1 a2)) := h.at_ 45 (93, _) rfl (hd ⟨45, .data⟩ (by simp) rfl)
      have p46 : a.tmps[94]? = some (.agg (V2 a1 a2)) := h.at_ 46 (94, _) rfl (hd ⟨46, .data⟩ (by simp) rfl)
      have p47 : a.tmps[95]? = some (.agg (V2 c1 c2)) := h.at_ 47 (95, _) rfl (hd ⟨47, .data⟩ (by simp) rfl)
      have p44 : a.tmps[92]? = some (.bool false) := h.at_ 44 (92, _) rfl (hd ⟨44, .chain⟩ (by simp) rfl)
      rw [if_pos (by rw [want_at rfl (yield_at (g := 44) (b := false) rfl rfl p44)]; rfl)]
      go_simp
      refine (hk3 _).mono ?_
      rintro e w1 ⟨rfl, hb⟩
      exact hK _ _ ⟨by first | exact hdf | rfl, h.put (i := 48) (d := 96) rfl hsz (h.inv.call hb) (h.ba.below hb h.ba.lt) (h.bb.below hb h.bb.lt) (h.bc.below hb h.bc.lt)⟩
    · refine wpOp_step (show ops6.toArray[_]? = some o by rw [List.getElem?_toArray]; exact ho) fun K hK => ?_
      simp only [ops6, List.getElem?_cons_succ, List.getElem?_cons_zero, Option.some.injEq] at ho
      subst ho
      have p48 : a.tmps[96]? = some (.bool true) := h.at_ 48 (96, _) rfl (hd ⟨48, .data⟩ (by simp) rfl)
      have p44 : a.tmps[92]? = some (.bool false) := h.at_ 44 (92, _) rfl (hd ⟨44, .guard⟩ (by simp) rfl)
      rw [if_pos (by rw [want_at rfl (yield_at (g := 44) (b := false) rfl rfl p44)]; rfl)]
      go_simp
      first
        | exact hK _ _ ⟨by first | exact hdf | rfl, h.put (i := 49) (d := 97) rfl hsz h.inv h.ba h.bb h.bc⟩
        | (rw [n1]; exact hK _ _ ⟨by first | exact hdf | rfl, h.put (i := 49) (d := 97) rfl hsz h.inv h.ba h.bb h.bc⟩)
        | (rw [n2]; exact hK _ _ ⟨by first | exact hdf | rfl, h.put (i := 49) (d := 97) rfl hsz h.inv h.ba h.bb h.bc⟩)
        | (rw [n3]; exact hK _ _ ⟨by first | exact hdf | rfl, h.put (i := 49) (d := 97) rfl hsz h.inv h.ba h.bb h.bc⟩)
        | (rw [n4]; exact hK _ _ ⟨by first | exact hdf | rfl, h.put (i := 49) (d := 97) rfl hsz h.inv h.ba h.bb h.bc⟩)
    · refine wpOp_step (show ops6.toArray[_]? = some o by rw [List.getElem?_toArray]; exact ho) fun K hK => ?_
      simp only [ops6, List.getElem?_cons_succ, List.getElem?_cons_zero, Option.some.injEq] at ho
      subst ho
      have p44 : a.tmps[92]? = some (.bool false) := h.at_ 44 (92, _) rfl (hd ⟨44, .data⟩ (by simp) rfl)
      have p49 : a.tmps[97]? = some (.bool false) := h.at_ 49 (97, _) rfl (hd ⟨49, .data⟩ (by simp) rfl)
      rw [if_pos (want_no rfl)]
      go_simp
      first
        | exact hK _ _ ⟨by first | exact hdf | rfl, h.put (i := 50) (d := 98) rfl hsz h.inv h.ba h.bb h.bc⟩
        | (rw [n1]; exact hK _ _ ⟨by first | exact hdf | rfl, h.put (i := 50) (d := 98) rfl hsz h.inv h.ba h.bb h.bc⟩)
        | (rw [n2]; exact hK _ _ ⟨by first | exact hdf | rfl, h.put (i := 50) (d := 98) rfl hsz h.inv h.ba h.bb h.bc⟩)
        | (rw [n3]; exact hK _ _ ⟨by first | exact hdf | rfl, h.put (i := 50) (d := 98) rfl hsz h.inv h.ba h.bb h.bc⟩)
        | (rw [n4]; exact hK _ _ ⟨by first | exact hdf | rfl, h.put (i := 50) (d := 98) rfl hsz h.inv h.ba h.bb h.bc⟩)
  · intro L a wx hall hI
    obtain ⟨hdf, h⟩ := hI
    have ht := Reg.Frm.same (ks := vals6 a1 a2 b1 b2 c1 c2 T) h.frm (by
      intro k hk
      obtain ⟨i, hi, e⟩ := List.getElem_of_mem hk
      exact h.at_ i k (by rw [List.getElem?_eq_getElem hi, e]) (hall i hi))
    have := hQ wx h.inv h.ba h.bb h.bc
    rw [← ht] at this
    cases a
    simp only at hdf
    subst hdf
    exact this
end Go.Proofs.Ytoiccljmdplfgaa.Pl
