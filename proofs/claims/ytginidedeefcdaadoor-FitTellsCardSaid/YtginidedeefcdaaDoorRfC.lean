/-
  FIT, THE REFERENCE, walked: stamps of clocks' times, a year's ends, whether spans are a year's.
-/
import Derived.Test.YtginidedeefcdaaDoorFtY
import Derived.Test.YtginidedeefcdaaDoorRfB
import Derived.Test.YtginidedeefcdaaDoorRrM
import Derived.StillTailTactics
namespace Go.Proofs.YtginidedeefcdaaDoor.Ft
open Go.ChangeShapes Go.WideShapes Go.ChangeAt Go.RowKit
open Go.Proofs.YtginidedeefcdaaDoor
open Go.Proofs.YtginidedeefcdaaDoor.Wd
open Go.Proofs.YtginidedeefcdaaDoor.Rec
open Go.Proofs.YtginidedeefcdaaDoor.Yr
open Go.Proofs.YtginidedeefcdaaDoor.Tb
open Go.Proofs.YtginidedeefcdaaDoor.Clk (yrV yrE)
open Go.Proofs.YtginidedeefcdaaDoor.Civ (Tab Inv dateE)
set_option linter.unusedVariables false
set_option linter.unusedSimpArgs false
theorem wp_store_g {P : Program} {o : Oper} {a : Act} {w : World} {K : Act → World → Prop} {Q : Exit → Act → World → Prop} (ty : TypeId) (x y : Operand) (ho : o.op = .store ty x y) (hd : o.dst = none)
    (g k : Nat) (cells new : Array Value) (hx : a.eval x = .pointer (some ⟨g, k, none⟩)) (hy : a.eval y = .agg cells) (t : TypeId) (old : Array Value) (hg : Blk w g t old)
    (hl : k + cells.size ≤ old.size) (hi : (P.info? ty).map (·.size) = some cells.size) (h1 : cells.all (·.oneCell') = true) (hn : (old.toList.take k ++ cells.toList ++ old.toList.drop (k + cells.size)).toArray = new)
    (h : K (a.put o.dst undef) (w.setRow g new)) : o.wp P a w K Q := by
  have := run_storeCells_at (P := P) g k t cells.toList 0 old w hg (by simpa using hl) (fun v hv => (Array.all_eq_true_iff_forall_mem.1 h1) v (by simpa using hv))
  simp only [Nat.add_zero, Array.length_toList] at this
  rw [hn] at this
  have hs : (storeVar ty ⟨g, k, none⟩ (.agg cells)).run P w = .ok () (w.setRow g new) := by
    cases hq : P.info? ty with
    | none => simp [hq] at hi
    | some i =>
      have hsz : cells.size = i.size := by simp [hq] at hi; omega
      simp [storeVar, sizeOf, typeInfo, hq, Value.cells, hsz, this]
  unfold Oper.wp execOp
  simp only [ho, hx, hy, Instr.storeAt, Instr.sureAddr, Sem.run_bind, Sem.run_pure, Result.andThen_ok, hs]
  exact h
set_option maxRecDepth 20000 in
set_option maxHeartbeats 1600000 in
theorem rstamp_no (c : Int) (w : World) (h1 : -9223372036854775808 ≤ c) (h2 : c ≤ 9223372036854775807) (h : fsOk c = false) :
    Calls Tryd.prog 16 #[.int .i64 c] w fun e w' => e = .returned (.tuple #[.agg (sA (fsV c)), .int .i64 (fsE c)]) ∧ Below w.heap.size w w' := by
  obtain ⟨v1, v2⟩ := fs_no h
  rw [v1, v2]
  have x0 := Blk.new w 26 z8
  have b0 : Below w.heap.size w (w.alloc (.cells z8 26)) := (Below.refl _ _).alloc (Nat.le_refl _) _
  have hs := fun w => Rf.rsplit_any c w h1 h2
  have ho := fun w => Civ.rof_any (c / 86400) w
  have hc : Cal.ofE (c / 86400) = 1 ∨ (Cal.ofE (c / 86400) = 0 ∧ Cal.ofYV (c / 86400) < 1601) := by
    have := of_decide_eq_false h
    rcases yr_01 c with q | q
    · right; exact ⟨q, by have q' : Cal.ofE (c / 86400) = 0 := q; unfold Clk.yrE Clk.yrV at this; omega⟩
    · exact .inl q.1
  clear v1 v2 h
  unfold z8 at x0 b0
  generalize Cal.ofYV (c / 86400) = Y at *
  generalize Cal.ofMV (c / 86400) = M at *
  generalize Cal.ofDV (c / 86400) = D at *
  have hsb : 0 ≤ c % 86400 ∧ c % 86400 < 86400 := by omega
  generalize c / 86400 = N at *
  generalize c % 86400 = S at *
  rcases hc with q | ⟨q, q2⟩
  all_goals
    rw [q] at ho; clear q
    go_enter Tryd.func16, Tryd.ntmps16
    go_wp2_with fail
    refine (hs _).mono ?_; rintro e wq ⟨rfl, rfl⟩
    go_wp2_with fail
    refine (ho _).mono ?_; rintro e w1 ⟨rfl, hb1⟩
    have x1 := (x0.below hb1 x0.lt).alloc (.cells #[.int .i64 Y, .int .i64 M, .int .i64 D] 90)
    have B1 := (b0.trans (hb1.mono b0.size)).alloc (b0.trans (hb1.mono b0.size)).size (.cells #[.int .i64 Y, .int .i64 M, .int .i64 D] 90)
    have k1 : (w1.alloc (.cells #[.int .i64 Y, .int .i64 M, .int .i64 D] 90)).cell? ⟨w1.heap.size, 0, none⟩ = some (.int .i64 Y) := (Blk.new w1 90 #[.int .i64 Y, .int .i64 M, .int .i64 D]).cell 0
    go_wp2_with (refine wpList_store_g rfl 26 _ _ rfl rfl _ 0 z8 z8 rfl rfl _ _ x1 (by show 0 + 8 ≤ 8; decide) (by kernel_rfl) (by kernel_rfl) (by kernel_rfl) ?_)
    exact bodyPost_ret (res_ct rfl _ _ _ _ _ _ _ rfl rfl (Blk.row x1 _) Tryd.underlying26 rfl (by kernel_rfl)) rfl ⟨rfl, below_row B1 (Nat.le_refl _) _⟩
set_option maxRecDepth 20000 in
set_option maxHeartbeats 3200000 in
theorem rstamp_five (c N S Y M D V ml : Int) (w : World) (hT : Tab w)
    (hs : ∀ w, Calls Tryd.prog 52 #[.int .i64 c] w fun e w' => e = .returned (.tuple #[.int .i64 N, .int .i64 S]) ∧ w = w')
    (ho : ∀ w, Calls Tryd.prog 53 #[.int .i64 N] w fun e w' => e = .returned (dateE Y M D 0) ∧ Below w.heap.size w w')
    (hl : ∀ w, Calls Tryd.prog 54 #[.int .i64 Y, .int .i64 M] w fun e w' => e = .returned (.tuple #[.int .i64 ml, .int .i64 0]) ∧ w = w')
    (hv : ∀ w, Calls Tryd.prog 55 #[.int .i64 N] w fun e w' => e = .returned (.int .i64 V) ∧ w = w')
    (y1 : ¬ Y < 1601) (m1 : 1 ≤ M) (m2 : M ≤ 12) (d1 : 1 ≤ D) (d2 : D ≤ ml) (l1 : 28 ≤ ml) (l2 : ml ≤ 31) (v1 : 0 ≤ V) (v2 : V ≤ 6) (s1 : 0 ≤ S) (s2 : S < 86400) (hw : ml - 7 < D) :
    Calls Tryd.prog 16 #[.int .i64 c] w fun e w' => e = .returned (.tuple #[.agg #[.int .u16 0, .int .u16 M, .int .u16 V, .int .u16 5, .int .u16 (S / 3600), .int .u16 (S / 60 % 60), .int .u16 (S % 60), .int .u16 0], .int .i64 0]) ∧ Below w.heap.size w w' := by
  have x0 := Blk.new w 26 z8
  have b0 : Below w.heap.size w (w.alloc (.cells z8 26)) := (Below.refl _ _).alloc (Nat.le_refl _) _
  unfold z8 at x0 b0
  go_enter Tryd.func16, Tryd.ntmps16
  go_wp2_with fail
  refine (hs _).mono ?_; rintro e wq ⟨rfl, rfl⟩
  go_wp2_with fail
  refine (ho _).mono ?_; rintro e w2 ⟨rfl, hb2⟩
  have x2 := x0.below hb2 x0.lt
  have B2 := b0.trans (hb2.mono b0.size)
  have x3 := x2.alloc (.cells #[.int .i64 Y, .int .i64 M, .int .i64 D] 90)
  have B3 := B2.alloc B2.size (.cells #[.int .i64 Y, .int .i64 M, .int .i64 D] 90)
  have y3 := Blk.new w2 90 #[.int .i64 Y, .int .i64 M, .int .i64 D]
  have k1 : (w2.alloc (.cells #[.int .i64 Y, .int .i64 M, .int .i64 D] 90)).cell? ⟨w2.heap.size, 0, none⟩ = some (.int .i64 Y) := y3.cell 0
  have k2 : (w2.alloc (.cells #[.int .i64 Y, .int .i64 M, .int .i64 D] 90)).cell? ⟨w2.heap.size, 1, none⟩ = some (.int .i64 M) := y3.cell 1
  have zz : w.heap.size < w2.heap.size := x2.lt
  have zg := y3.lt
  have k3 : (w2.alloc (.cells #[.int .i64 Y, .int .i64 M, .int .i64 D] 90)).cell? ⟨w2.heap.size, 2, none⟩ = some (.int .i64 D) := y3.cell 2
  go_wp2_with fail
  generalize w2.alloc (.cells #[.int .i64 Y, .int .i64 M, .int .i64 D] 90) = W at *
  generalize w2.heap.size = g at *
  refine (hl _).mono ?_; rintro e wq ⟨rfl, rfl⟩
  go_upto_region 6 with fail
  have a1 : IntKind.u16.wrap M = M := by simp [IntKind.wrap, IntKind.bits, IntKind.signed]; omega
  have a2 : IntKind.u16.wrap V = V := by simp [IntKind.wrap, IntKind.bits, IntKind.signed]; omega
  have e0 : S.tdiv 3600 = S / 3600 := Int.tdiv_eq_ediv_of_nonneg (by omega)
  have e1 : S.tdiv 60 = S / 60 := Int.tdiv_eq_ediv_of_nonneg (by omega)
  have e2 : S.tmod 60 = S % 60 := Int.tmod_eq_emod_of_nonneg (by omega)
  have e3 : (S / 60).tmod 60 = S / 60 % 60 := Int.tmod_eq_emod_of_nonneg (by omega)
  have n0 : IntKind.i64.wrap (S / 3600) = S / 3600 := by simp [IntKind.wrap, IntKind.bits, IntKind.signed]; omega
  have n1 : IntKind.i64.wrap (S / 60) = S / 60 := by simp [IntKind.wrap, IntKind.bits, IntKind.signed]; omega
  have g0 : IntKind.u16.wrap (S / 3600) = S / 3600 := by simp [IntKind.wrap, IntKind.bits, IntKind.signed]; omega
  have g1 : IntKind.u16.wrap (S / 60 % 60) = S / 60 % 60 := by simp [IntKind.wrap, IntKind.bits, IntKind.signed]; omega
  have g2 : IntKind.u16.wrap (S % 60) = S % 60 := by simp [IntKind.wrap, IntKind.bits, IntKind.signed]; omega
  have yd : Blk W.drew g 90 #[.int .i64 Y, .int .i64 M, .int .i64 D] := y3
  have xd : Blk W.drew w.heap.size 26 z8 := x3
  refine wp_region_held_drew (S := fun w' => w'.cell? ⟨g, 1, none⟩ = some (.int .i64 M)) (by kernel_rfl) (yd.cell 1) (fun hHeld => ?_)
  refine wpAnyH_take (i := 0) (oi := { dst := some 37, op := Op.fieldAddr 90 (Operand.tmp 6) 1, type := 0, pos := "ref.go:22", after := #[], guard := none }) (v := ?_) rfl (by kernel_rfl) (by kernel_rfl) (by kernel_rfl) (fun _ _ _ h => h) (Or.inl ⟨by rfl, ?_⟩) hHeld ?_
  rotate_left
  · intro w hSw
    try dsimp only at hSw
    go_simp
    try with_reducible rfl
  try simp only [Act.put, List.setIfInBounds_toArray, List.set_cons_zero, List.set_cons_succ]
  refine wpAnyH_take (i := 1) (oi := { dst := some 38, op := Op.load 3 (Operand.tmp 37), type := 3, pos := "ref.go:22", after := #[{ on := 0, ground := Ground.data }], guard := none }) (v := ?_) rfl (by kernel_rfl) (by kernel_rfl) (by kernel_rfl) (fun _ _ _ h => h) (Or.inl ⟨by rfl, ?_⟩) hHeld ?_
  rotate_left
  · intro w hSw
    try dsimp only at hSw
    go_simp
    try with_reducible rfl
  try simp only [Act.put, List.setIfInBounds_toArray, List.set_cons_zero, List.set_cons_succ]
  refine wpAnyH_take (i := 2) (oi := { dst := some 39, op := Op.convert 3 24 (Operand.tmp 38), type := 24, pos := "ref.go:22", after := #[{ on := 1, ground := Ground.data }], guard := none }) (v := ?_) rfl (by kernel_rfl) (by kernel_rfl) (by kernel_rfl) (fun _ _ _ h => h) (Or.inl ⟨by rfl, ?_⟩) hHeld ?_
  rotate_left
  · intro w hSw
    try dsimp only at hSw
    go_simp
    try with_reducible rfl
  try simp only [Act.put, List.setIfInBounds_toArray, List.set_cons_zero, List.set_cons_succ]
  refine wpAnyH_take (i := 3) (oi := { dst := some 40, op := Op.move (Operand.tmp 4), type := 2, pos := "ref.go:22", after := #[], guard := none }) (v := ?_) rfl (by kernel_rfl) (by kernel_rfl) (by kernel_rfl) (fun _ _ _ h => h) (Or.inl ⟨by rfl, ?_⟩) hHeld ?_
  rotate_left
  · intro w hSw
    try dsimp only at hSw
    go_simp
    try with_reducible rfl
  try simp only [Act.put, List.setIfInBounds_toArray, List.set_cons_zero, List.set_cons_succ]
  refine wpAnyH_take (i := 6) (oi := { dst := some 43, op := Op.move (Operand.tmp 5), type := 2, pos := "ref.go:22", after := #[], guard := none }) (v := ?_) rfl (by kernel_rfl) (by kernel_rfl) (by kernel_rfl) (fun _ _ _ h => h) (Or.inl ⟨by rfl, ?_⟩) hHeld ?_
  rotate_left
  · intro w hSw
    try dsimp only at hSw
    go_simp
    try with_reducible rfl
  try simp only [Act.put, List.setIfInBounds_toArray, List.set_cons_zero, List.set_cons_succ]
  refine wpAnyH_take (i := 7) (oi := { dst := some 44, op := Op.binOp BinOp.quo 2 (Operand.tmp 43) (Operand.const (Value.int IntKind.i64 3600)) 2, type := 2, pos := "ref.go:22", after := #[{ on := 6, ground := Ground.data }], guard := none }) (v := ?_) rfl (by kernel_rfl) (by kernel_rfl) (by kernel_rfl) (fun _ _ _ h => h) (Or.inl ⟨by rfl, ?_⟩) hHeld ?_
  rotate_left
  · intro w hSw
    try dsimp only at hSw
    go_simp
    try with_reducible rfl
  try simp only [Act.put, List.setIfInBounds_toArray, List.set_cons_zero, List.set_cons_succ]
  refine wpAnyH_take (i := 8) (oi := { dst := some 45, op := Op.convert 2 24 (Operand.tmp 44), type := 24, pos := "ref.go:22", after := #[{ on := 7, ground := Ground.data }], guard := none }) (v := ?_) rfl (by kernel_rfl) (by kernel_rfl) (by kernel_rfl) (fun _ _ _ h => h) (Or.inl ⟨by rfl, ?_⟩) hHeld ?_
  rotate_left
  · intro w hSw
    try dsimp only at hSw
    go_simp
    try with_reducible rfl
  try simp only [Act.put, List.setIfInBounds_toArray, List.set_cons_zero, List.set_cons_succ]
  refine wpAnyH_take (i := 9) (oi := { dst := some 46, op := Op.move (Operand.tmp 5), type := 2, pos := "ref.go:22", after := #[], guard := none }) (v := ?_) rfl (by kernel_rfl) (by kernel_rfl) (by kernel_rfl) (fun _ _ _ h => h) (Or.inl ⟨by rfl, ?_⟩) hHeld ?_
  rotate_left
  · intro w hSw
    try dsimp only at hSw
    go_simp
    try with_reducible rfl
  try simp only [Act.put, List.setIfInBounds_toArray, List.set_cons_zero, List.set_cons_succ]
  refine wpAnyH_take (i := 10) (oi := { dst := some 47, op := Op.binOp BinOp.quo 2 (Operand.tmp 46) (Operand.const (Value.int IntKind.i64 60)) 2, type := 2, pos := "ref.go:22", after := #[{ on := 9, ground := Ground.data }], guard := none }) (v := ?_) rfl (by kernel_rfl) (by kernel_rfl) (by kernel_rfl) (fun _ _ _ h => h) (Or.inl ⟨by rfl, ?_⟩) hHeld ?_
  rotate_left
  · intro w hSw
    try dsimp only at hSw
    go_simp
    try with_reducible rfl
  try simp only [Act.put, List.setIfInBounds_toArray, List.set_cons_zero, List.set_cons_succ]
  refine wpAnyH_take (i := 11) (oi := { dst := some 48, op := Op.binOp BinOp.rem 2 (Operand.tmp 47) (Operand.const (Value.int IntKind.i64 60)) 2, type := 2, pos := "ref.go:22", after := #[{ on := 10, ground := Ground.data }], guard := none }) (v := ?_) rfl (by kernel_rfl) (by kernel_rfl) (by kernel_rfl) (fun _ _ _ h => h) (Or.inl ⟨by rfl, ?_⟩) hHeld ?_
  rotate_left
  · intro w hSw
    try dsimp only at hSw
    go_simp
    try with_reducible rfl
  try simp only [Act.put, List.setIfInBounds_toArray, List.set_cons_zero, List.set_cons_succ]
  refine wpAnyH_take (i := 12) (oi := { dst := some 49, op := Op.convert 2 24 (Operand.tmp 48), type := 24, pos := "ref.go:22", after := #[{ on := 11, ground := Ground.data }], guard := none }) (v := ?_) rfl (by kernel_rfl) (by kernel_rfl) (by kernel_rfl) (fun _ _ _ h => h) (Or.inl ⟨by rfl, ?_⟩) hHeld ?_
  rotate_left
  · intro w hSw
    try dsimp only at hSw
    go_simp
    try with_reducible rfl
  try simp only [Act.put, List.setIfInBounds_toArray, List.set_cons_zero, List.set_cons_succ]
  refine wpAnyH_take (i := 13) (oi := { dst := some 50, op := Op.move (Operand.tmp 5), type := 2, pos := "ref.go:22", after := #[], guard := none }) (v := ?_) rfl (by kernel_rfl) (by kernel_rfl) (by kernel_rfl) (fun _ _ _ h => h) (Or.inl ⟨by rfl, ?_⟩) hHeld ?_
  rotate_left
  · intro w hSw
    try dsimp only at hSw
    go_simp
    try with_reducible rfl
  try simp only [Act.put, List.setIfInBounds_toArray, List.set_cons_zero, List.set_cons_succ]
  refine wpAnyH_take (i := 14) (oi := { dst := some 51, op := Op.binOp BinOp.rem 2 (Operand.tmp 50) (Operand.const (Value.int IntKind.i64 60)) 2, type := 2, pos := "ref.go:22", after := #[{ on := 13, ground := Ground.data }], guard := none }) (v := ?_) rfl (by kernel_rfl) (by kernel_rfl) (by kernel_rfl) (fun _ _ _ h => h) (Or.inl ⟨by rfl, ?_⟩) hHeld ?_
  rotate_left
  · intro w hSw
    try dsimp only at hSw
    go_simp
    try with_reducible rfl
  try simp only [Act.put, List.setIfInBounds_toArray, List.set_cons_zero, List.set_cons_succ]
  refine wpAnyH_take (i := 15) (oi := { dst := some 52, op := Op.convert 2 24 (Operand.tmp 51), type := 24, pos := "ref.go:22", after := #[{ on := 14, ground := Ground.data }], guard := none }) (v := ?_) rfl (by kernel_rfl) (by kernel_rfl) (by kernel_rfl) (fun _ _ _ h => h) (Or.inl ⟨by rfl, ?_⟩) hHeld ?_
  rotate_left
  · intro w hSw
    try dsimp only at hSw
    go_simp
    try with_reducible rfl
  try simp only [Act.put, List.setIfInBounds_toArray, List.set_cons_zero, List.set_cons_succ]
  refine wpAnyH_ready (rs := [4, 17]) (by kernel_rfl) (by simp) ?_
  refine AllReadyH.cons (o := { dst := some 41, op := Op.call { callee := Callee.value (Operand.func 55), args := #[Operand.tmp 40], argTypes := #[2] }, type := 3, pos := "ref.go:22", after := #[{ on := 3, ground := Ground.data }], guard := none }) rfl (fun K hK => ?_) (AllReadyH.cons (o := { dst := some 10, op := Op.alloc 26, type := 0, pos := "ref.go:22", after := #[], guard := none }) rfl (fun K hK => ?_) (AllReadyH.nil))
  · skip
    go_simp
    refine (hv _).mono ?_; rintro e wq ⟨rfl, rfl⟩
    try go_wp2_with fail
    refine hK.out _ _ (hHeld) (fun hHeld2 => ?_)
    clear hK K hHeld; have hHeld := hHeld2; clear hHeld2
    try simp only [Act.put, List.setIfInBounds_toArray, List.set_cons_zero, List.set_cons_succ]
    refine wpAnyH_take (i := 5) (oi := { dst := some 42, op := Op.convert 3 24 (Operand.tmp 41), type := 24, pos := "ref.go:22", after := #[{ on := 4, ground := Ground.data }], guard := none }) (v := ?_) rfl (by kernel_rfl) (by kernel_rfl) (by kernel_rfl) (fun _ _ _ h => h) (Or.inl ⟨by rfl, ?_⟩) hHeld ?_
    rotate_left
    · intro w hSw
      try dsimp only at hSw
      go_simp
      try with_reducible rfl
    try simp only [Act.put, List.setIfInBounds_toArray, List.set_cons_zero, List.set_cons_succ]
    refine wpAnyH_take (i := 16) (oi := { dst := some 53, op := Op.build 26 #[(1, Operand.tmp 39), (2, Operand.tmp 42), (3, Operand.const (Value.int IntKind.u16 5)), (4, Operand.tmp 45), (5, Operand.tmp 49), (6, Operand.tmp 52)], type := 26, pos := "ref.go:22", after := #[{ on := 2, ground := Ground.data }, { on := 5, ground := Ground.data }, { on := 8, ground := Ground.data }, { on := 12, ground := Ground.data }, { on := 15, ground := Ground.data }], guard := none }) (v := ?_) rfl (by kernel_rfl) (by kernel_rfl) (by kernel_rfl) (fun _ _ _ h => h) (Or.inl ⟨by rfl, ?_⟩) hHeld ?_
    rotate_left
    · intro w hSw
      try dsimp only at hSw
      go_simp
      try with_reducible rfl
    try simp only [Act.put, List.setIfInBounds_toArray, List.set_cons_zero, List.set_cons_succ]
    refine wpAnyH_ready (rs := [17]) (by kernel_rfl) (by simp) ?_
    refine AllReadyH.cons (o := { dst := some 10, op := Op.alloc 26, type := 0, pos := "ref.go:22", after := #[], guard := none }) rfl (fun K hK => ?_) (AllReadyH.nil)
    go_simp
    refine hK.out _ _ ((yd.alloc (.cells z8 26)).cell 1) (fun hHeld2 => ?_)
    clear hK K hHeld; have hHeld := hHeld2; clear hHeld2
    try simp only [Act.put, List.setIfInBounds_toArray, List.set_cons_zero, List.set_cons_succ]
    refine wpAnyH_ready (rs := [18]) (by kernel_rfl) (by simp) ?_
    refine AllReadyH.cons (o := { dst := none, op := Op.store 26 (Operand.tmp 10) (Operand.tmp 53), type := 0, pos := "ref.go:22", after := #[{ on := 17, ground := Ground.data }, { on := 16, ground := Ground.data }, { on := 4, ground := Ground.chain }, { on := 0, ground := Ground.phase }, { on := 1, ground := Ground.phase }, { on := 2, ground := Ground.phase }, { on := 3, ground := Ground.phase }, { on := 4, ground := Ground.phase }, { on := 5, ground := Ground.phase }, { on := 6, ground := Ground.phase }, { on := 7, ground := Ground.phase }, { on := 8, ground := Ground.phase }, { on := 9, ground := Ground.phase }, { on := 10, ground := Ground.phase }, { on := 11, ground := Ground.phase }, { on := 12, ground := Ground.phase }, { on := 13, ground := Ground.phase }, { on := 14, ground := Ground.phase }, { on := 15, ground := Ground.phase }, { on := 16, ground := Ground.phase }, { on := 17, ground := Ground.phase }], guard := none }) rfl (fun K hK => ?_) (AllReadyH.nil)
    refine wp_store_g 26 (.tmp 10) (.tmp 53) rfl rfl W.heap.size 0 #[.int .u16 0, .int .u16 M, .int .u16 V, .int .u16 5, .int .u16 (S / 3600), .int .u16 (S / 60 % 60), .int .u16 (S % 60), .int .u16 0] #[.int .u16 0, .int .u16 M, .int .u16 V, .int .u16 5, .int .u16 (S / 3600), .int .u16 (S / 60 % 60), .int .u16 (S % 60), .int .u16 0] rfl rfl _ z8 (Blk.new W.drew 26 z8) (by show 0 + 8 ≤ 8; decide) (by kernel_rfl) (by kernel_rfl) (by kernel_rfl) ?_
    refine hK.out _ _ ((Blk.rowFar (yd.alloc (.cells z8 26)) (show g ≠ W.heap.size by omega) #[.int .u16 0, .int .u16 M, .int .u16 V, .int .u16 5, .int .u16 (S / 3600), .int .u16 (S / 60 % 60), .int .u16 (S % 60), .int .u16 0]).cell 1) (fun hHeld2 => ?_)
    clear hK K hHeld; have hHeld := hHeld2; clear hHeld2
    try simp only [Act.put, List.setIfInBounds_toArray, List.set_cons_zero, List.set_cons_succ]
    refine wpAnyH_done (by kernel_rfl) ?_ _
    have x5 : Blk ((W.alloc (.cells z8 26)).drew.setRow W.heap.size #[.int .u16 0, .int .u16 M, .int .u16 V, .int .u16 5, .int .u16 (S / 3600), .int .u16 (S / 60 % 60), .int .u16 (S % 60), .int .u16 0]) w.heap.size 26 z8 := Blk.rowFar (xd.alloc (.cells z8 26)) (show w.heap.size ≠ W.heap.size by omega) #[.int .u16 0, .int .u16 M, .int .u16 V, .int .u16 5, .int .u16 (S / 3600), .int .u16 (S / 60 % 60), .int .u16 (S % 60), .int .u16 0]
    have y5 : Blk ((W.alloc (.cells z8 26)).drew.setRow W.heap.size #[.int .u16 0, .int .u16 M, .int .u16 V, .int .u16 5, .int .u16 (S / 3600), .int .u16 (S / 60 % 60), .int .u16 (S % 60), .int .u16 0]) g 90 #[.int .i64 Y, .int .i64 M, .int .i64 D] := Blk.rowFar (yd.alloc (.cells z8 26)) (show g ≠ W.heap.size by omega) #[.int .u16 0, .int .u16 M, .int .u16 V, .int .u16 5, .int .u16 (S / 3600), .int .u16 (S / 60 % 60), .int .u16 (S % 60), .int .u16 0]
    have t5 : Blk ((W.alloc (.cells z8 26)).drew.setRow W.heap.size #[.int .u16 0, .int .u16 M, .int .u16 V, .int .u16 5, .int .u16 (S / 3600), .int .u16 (S / 60 % 60), .int .u16 (S % 60), .int .u16 0]) W.heap.size 26 #[.int .u16 0, .int .u16 M, .int .u16 V, .int .u16 5, .int .u16 (S / 3600), .int .u16 (S / 60 % 60), .int .u16 (S % 60), .int .u16 0] := Blk.row (Blk.new W.drew 26 z8) #[.int .u16 0, .int .u16 M, .int .u16 V, .int .u16 5, .int .u16 (S / 3600), .int .u16 (S / 60 % 60), .int .u16 (S % 60), .int .u16 0]
    have B5 : Below w.heap.size w ((W.alloc (.cells z8 26)).drew.setRow W.heap.size #[.int .u16 0, .int .u16 M, .int .u16 V, .int .u16 5, .int .u16 (S / 3600), .int .u16 (S / 60 % 60), .int .u16 (S % 60), .int .u16 0]) := below_row (B3.drew.alloc B3.drew.size (.cells z8 26)) (show w.heap.size ≤ W.heap.size by omega) #[.int .u16 0, .int .u16 M, .int .u16 V, .int .u16 5, .int .u16 (S / 3600), .int .u16 (S / 60 % 60), .int .u16 (S % 60), .int .u16 0]
    have zw : w.heap.size < W.heap.size := by omega
    clear hHeld xd yd x3 y3 B3
    generalize ((W.alloc (.cells z8 26)).drew.setRow W.heap.size #[.int .u16 0, .int .u16 M, .int .u16 V, .int .u16 5, .int .u16 (S / 3600), .int .u16 (S / 60 % 60), .int .u16 (S % 60), .int .u16 0]) = W5 at *
    generalize W.heap.size = g5 at *
    have k5 := y5.cell 2
    simp at k5
    go_wp2_with (first | refine wpList_row_g rfl 26 _ rfl _ rfl _ _ _ _ t5 Tryd.underlying26 rfl (by kernel_rfl) ?_ | refine wpList_store_g rfl 26 _ _ rfl rfl _ 0 #[.int .u16 0, .int .u16 M, .int .u16 V, .int .u16 5, .int .u16 (S / 3600), .int .u16 (S / 60 % 60), .int .u16 (S % 60), .int .u16 0] #[.int .u16 0, .int .u16 M, .int .u16 V, .int .u16 5, .int .u16 (S / 3600), .int .u16 (S / 60 % 60), .int .u16 (S % 60), .int .u16 0] rfl rfl _ _ x5 (by show 0 + 8 ≤ 8; decide) (by kernel_rfl) (by kernel_rfl) (by kernel_rfl) ?_)
    exact bodyPost_ret (res_ct rfl _ _ _ _ _ _ _ rfl rfl (Blk.row x5 _) Tryd.underlying26 rfl (by kernel_rfl)) rfl ⟨rfl, below_row B5 (Nat.le_refl _) _⟩
  · skip
    go_simp
    refine hK.out _ _ ((yd.alloc (.cells z8 26)).cell 1) (fun hHeld2 => ?_)
    clear hK K hHeld; have hHeld := hHeld2; clear hHeld2
    try simp only [Act.put, List.setIfInBounds_toArray, List.set_cons_zero, List.set_cons_succ]
    refine wpAnyH_ready (rs := [4]) (by kernel_rfl) (by simp) ?_
    refine AllReadyH.cons (o := { dst := some 41, op := Op.call { callee := Callee.value (Operand.func 55), args := #[Operand.tmp 40], argTypes := #[2] }, type := 3, pos := "ref.go:22", after := #[{ on := 3, ground := Ground.data }], guard := none }) rfl (fun K hK => ?_) (AllReadyH.nil)
    go_simp
    refine (hv _).mono ?_; rintro e wq ⟨rfl, rfl⟩
    try go_wp2_with fail
    refine hK.out _ _ (hHeld) (fun hHeld2 => ?_)
    clear hK K hHeld; have hHeld := hHeld2; clear hHeld2
    try simp only [Act.put, List.setIfInBounds_toArray, List.set_cons_zero, List.set_cons_succ]
    refine wpAnyH_take (i := 5) (oi := { dst := some 42, op := Op.convert 3 24 (Operand.tmp 41), type := 24, pos := "ref.go:22", after := #[{ on := 4, ground := Ground.data }], guard := none }) (v := ?_) rfl (by kernel_rfl) (by kernel_rfl) (by kernel_rfl) (fun _ _ _ h => h) (Or.inl ⟨by rfl, ?_⟩) hHeld ?_
    rotate_left
    · intro w hSw
      try dsimp only at hSw
      go_simp
      try with_reducible rfl
    try simp only [Act.put, List.setIfInBounds_toArray, List.set_cons_zero, List.set_cons_succ]
    refine wpAnyH_take (i := 16) (oi := { dst := some 53, op := Op.build 26 #[(1, Operand.tmp 39), (2, Operand.tmp 42), (3, Operand.const (Value.int IntKind.u16 5)), (4, Operand.tmp 45), (5, Operand.tmp 49), (6, Operand.tmp 52)], type := 26, pos := "ref.go:22", after := #[{ on := 2, ground := Ground.data }, { on := 5, ground := Ground.data }, { on := 8, ground := Ground.data }, { on := 12, ground := Ground.data }, { on := 15, ground := Ground.data }], guard := none }) (v := ?_) rfl (by kernel_rfl) (by kernel_rfl) (by kernel_rfl) (fun _ _ _ h => h) (Or.inl ⟨by rfl, ?_⟩) hHeld ?_
    rotate_left
    · intro w hSw
      try dsimp only at hSw
      go_simp
      try with_reducible rfl
    try simp only [Act.put, List.setIfInBounds_toArray, List.set_cons_zero, List.set_cons_succ]
    refine wpAnyH_ready (rs := [18]) (by kernel_rfl) (by simp) ?_
    refine AllReadyH.cons (o := { dst := none, op := Op.store 26 (Operand.tmp 10) (Operand.tmp 53), type := 0, pos := "ref.go:22", after := #[{ on := 17, ground := Ground.data }, { on := 16, ground := Ground.data }, { on := 4, ground := Ground.chain }, { on := 0, ground := Ground.phase }, { on := 1, ground := Ground.phase }, { on := 2, ground := Ground.phase }, { on := 3, ground := Ground.phase }, { on := 4, ground := Ground.phase }, { on := 5, ground := Ground.phase }, { on := 6, ground := Ground.phase }, { on := 7, ground := Ground.phase }, { on := 8, ground := Ground.phase }, { on := 9, ground := Ground.phase }, { on := 10, ground := Ground.phase }, { on := 11, ground := Ground.phase }, { on := 12, ground := Ground.phase }, { on := 13, ground := Ground.phase }, { on := 14, ground := Ground.phase }, { on := 15, ground := Ground.phase }, { on := 16, ground := Ground.phase }, { on := 17, ground := Ground.phase }], guard := none }) rfl (fun K hK => ?_) (AllReadyH.nil)
    refine wp_store_g 26 (.tmp 10) (.tmp 53) rfl rfl W.heap.size 0 #[.int .u16 0, .int .u16 M, .int .u16 V, .int .u16 5, .int .u16 (S / 3600), .int .u16 (S / 60 % 60), .int .u16 (S % 60), .int .u16 0] #[.int .u16 0, .int .u16 M, .int .u16 V, .int .u16 5, .int .u16 (S / 3600), .int .u16 (S / 60 % 60), .int .u16 (S % 60), .int .u16 0] rfl rfl _ z8 (Blk.new W.drew 26 z8) (by show 0 + 8 ≤ 8; decide) (by kernel_rfl) (by kernel_rfl) (by kernel_rfl) ?_
    refine hK.out _ _ ((Blk.rowFar (yd.alloc (.cells z8 26)) (show g ≠ W.heap.size by omega) #[.int .u16 0, .int .u16 M, .int .u16 V, .int .u16 5, .int .u16 (S / 3600), .int .u16 (S / 60 % 60), .int .u16 (S % 60), .int .u16 0]).cell 1) (fun hHeld2 => ?_)
    clear hK K hHeld; have hHeld := hHeld2; clear hHeld2
    try simp only [Act.put, List.setIfInBounds_toArray, List.set_cons_zero, List.set_cons_succ]
    refine wpAnyH_done (by kernel_rfl) ?_ _
    have x5 : Blk ((W.alloc (.cells z8 26)).drew.setRow W.heap.size #[.int .u16 0, .int .u16 M, .int .u16 V, .int .u16 5, .int .u16 (S / 3600), .int .u16 (S / 60 % 60), .int .u16 (S % 60), .int .u16 0]) w.heap.size 26 z8 := Blk.rowFar (xd.alloc (.cells z8 26)) (show w.heap.size ≠ W.heap.size by omega) #[.int .u16 0, .int .u16 M, .int .u16 V, .int .u16 5, .int .u16 (S / 3600), .int .u16 (S / 60 % 60), .int .u16 (S % 60), .int .u16 0]
    have y5 : Blk ((W.alloc (.cells z8 26)).drew.setRow W.heap.size #[.int .u16 0, .int .u16 M, .int .u16 V, .int .u16 5, .int .u16 (S / 3600), .int .u16 (S / 60 % 60), .int .u16 (S % 60), .int .u16 0]) g 90 #[.int .i64 Y, .int .i64 M, .int .i64 D] := Blk.rowFar (yd.alloc (.cells z8 26)) (show g ≠ W.heap.size by omega) #[.int .u16 0, .int .u16 M, .int .u16 V, .int .u16 5, .int .u16 (S / 3600), .int .u16 (S / 60 % 60), .int .u16 (S % 60), .int .u16 0]
    have t5 : Blk ((W.alloc (.cells z8 26)).drew.setRow W.heap.size #[.int .u16 0, .int .u16 M, .int .u16 V, .int .u16 5, .int .u16 (S / 3600), .int .u16 (S / 60 % 60), .int .u16 (S % 60), .int .u16 0]) W.heap.size 26 #[.int .u16 0, .int .u16 M, .int .u16 V, .int .u16 5, .int .u16 (S / 3600), .int .u16 (S / 60 % 60), .int .u16 (S % 60), .int .u16 0] := Blk.row (Blk.new W.drew 26 z8) #[.int .u16 0, .int .u16 M, .int .u16 V, .int .u16 5, .int .u16 (S / 3600), .int .u16 (S / 60 % 60), .int .u16 (S % 60), .int .u16 0]
    have B5 : Below w.heap.size w ((W.alloc (.cells z8 26)).drew.setRow W.heap.size #[.int .u16 0, .int .u16 M, .int .u16 V, .int .u16 5, .int .u16 (S / 3600), .int .u16 (S / 60 % 60), .int .u16 (S % 60), .int .u16 0]) := below_row (B3.drew.alloc B3.drew.size (.cells z8 26)) (show w.heap.size ≤ W.heap.size by omega) #[.int .u16 0, .int .u16 M, .int .u16 V, .int .u16 5, .int .u16 (S / 3600), .int .u16 (S / 60 % 60), .int .u16 (S % 60), .int .u16 0]
    have zw : w.heap.size < W.heap.size := by omega
    clear hHeld xd yd x3 y3 B3
    generalize ((W.alloc (.cells z8 26)).drew.setRow W.heap.size #[.int .u16 0, .int .u16 M, .int .u16 V, .int .u16 5, .int .u16 (S / 3600), .int .u16 (S / 60 % 60), .int .u16 (S % 60), .int .u16 0]) = W5 at *
    generalize W.heap.size = g5 at *
    have k5 := y5.cell 2
    simp at k5
    go_wp2_with (first | refine wpList_row_g rfl 26 _ rfl _ rfl _ _ _ _ t5 Tryd.underlying26 rfl (by kernel_rfl) ?_ | refine wpList_store_g rfl 26 _ _ rfl rfl _ 0 #[.int .u16 0, .int .u16 M, .int .u16 V, .int .u16 5, .int .u16 (S / 3600), .int .u16 (S / 60 % 60), .int .u16 (S % 60), .int .u16 0] #[.int .u16 0, .int .u16 M, .int .u16 V, .int .u16 5, .int .u16 (S / 3600), .int .u16 (S / 60 % 60), .int .u16 (S % 60), .int .u16 0] rfl rfl _ _ x5 (by show 0 + 8 ≤ 8; decide) (by kernel_rfl) (by kernel_rfl) (by kernel_rfl) ?_)
    exact bodyPost_ret (res_ct rfl _ _ _ _ _ _ _ rfl rfl (Blk.row x5 _) Tryd.underlying26 rfl (by kernel_rfl)) rfl ⟨rfl, below_row B5 (Nat.le_refl _) _⟩
set_option maxRecDepth 20000 in
set_option maxHeartbeats 3200000 in
theorem rstamp_less (c N S Y M D V ml : Int) (w : World) (hT : Tab w)
    (hs : ∀ w, Calls Tryd.prog 52 #[.int .i64 c] w fun e w' => e = .returned (.tuple #[.int .i64 N, .int .i64 S]) ∧ w = w')
    (ho : ∀ w, Calls Tryd.prog 53 #[.int .i64 N] w fun e w' => e = .returned (dateE Y M D 0) ∧ Below w.heap.size w w')
    (hl : ∀ w, Calls Tryd.prog 54 #[.int .i64 Y, .int .i64 M] w fun e w' => e = .returned (.tuple #[.int .i64 ml, .int .i64 0]) ∧ w = w')
    (hv : ∀ w, Calls Tryd.prog 55 #[.int .i64 N] w fun e w' => e = .returned (.int .i64 V) ∧ w = w')
    (y1 : ¬ Y < 1601) (m1 : 1 ≤ M) (m2 : M ≤ 12) (d1 : 1 ≤ D) (d2 : D ≤ ml) (l1 : 28 ≤ ml) (l2 : ml ≤ 31) (v1 : 0 ≤ V) (v2 : V ≤ 6) (s1 : 0 ≤ S) (s2 : S < 86400) (hw : ¬ ml - 7 < D) :
    Calls Tryd.prog 16 #[.int .i64 c] w fun e w' => e = .returned (.tuple #[.agg #[.int .u16 0, .int .u16 M, .int .u16 V, .int .u16 ((D - 1) / 7 + 1), .int .u16 (S / 3600), .int .u16 (S / 60 % 60), .int .u16 (S % 60), .int .u16 0], .int .i64 0]) ∧ Below w.heap.size w w' := by
  have x0 := Blk.new w 26 z8
  have b0 : Below w.heap.size w (w.alloc (.cells z8 26)) := (Below.refl _ _).alloc (Nat.le_refl _) _
  unfold z8 at x0 b0
  go_enter Tryd.func16, Tryd.ntmps16
  go_wp2_with fail
  refine (hs _).mono ?_; rintro e wq ⟨rfl, rfl⟩
  go_wp2_with fail
  refine (ho _).mono ?_; rintro e w2 ⟨rfl, hb2⟩
  have x2 := x0.below hb2 x0.lt
  have B2 := b0.trans (hb2.mono b0.size)
  have x3 := x2.alloc (.cells #[.int .i64 Y, .int .i64 M, .int .i64 D] 90)
  have B3 := B2.alloc B2.size (.cells #[.int .i64 Y, .int .i64 M, .int .i64 D] 90)
  have y3 := Blk.new w2 90 #[.int .i64 Y, .int .i64 M, .int .i64 D]
  have k1 : (w2.alloc (.cells #[.int .i64 Y, .int .i64 M, .int .i64 D] 90)).cell? ⟨w2.heap.size, 0, none⟩ = some (.int .i64 Y) := y3.cell 0
  have k2 : (w2.alloc (.cells #[.int .i64 Y, .int .i64 M, .int .i64 D] 90)).cell? ⟨w2.heap.size, 1, none⟩ = some (.int .i64 M) := y3.cell 1
  have zz : w.heap.size < w2.heap.size := x2.lt
  have zg := y3.lt
  have k3 : (w2.alloc (.cells #[.int .i64 Y, .int .i64 M, .int .i64 D] 90)).cell? ⟨w2.heap.size, 2, none⟩ = some (.int .i64 D) := y3.cell 2
  go_wp2_with fail
  generalize w2.alloc (.cells #[.int .i64 Y, .int .i64 M, .int .i64 D] 90) = W at *
  generalize w2.heap.size = g at *
  refine (hl _).mono ?_; rintro e wq ⟨rfl, rfl⟩
  go_upto_region 6 with fail
  have a1 : IntKind.u16.wrap M = M := by simp [IntKind.wrap, IntKind.bits, IntKind.signed]; omega
  have a2 : IntKind.u16.wrap V = V := by simp [IntKind.wrap, IntKind.bits, IntKind.signed]; omega
  have e0 : S.tdiv 3600 = S / 3600 := Int.tdiv_eq_ediv_of_nonneg (by omega)
  have e1 : S.tdiv 60 = S / 60 := Int.tdiv_eq_ediv_of_nonneg (by omega)
  have e2 : S.tmod 60 = S % 60 := Int.tmod_eq_emod_of_nonneg (by omega)
  have e3 : (S / 60).tmod 60 = S / 60 % 60 := Int.tmod_eq_emod_of_nonneg (by omega)
  have n0 : IntKind.i64.wrap (S / 3600) = S / 3600 := by simp [IntKind.wrap, IntKind.bits, IntKind.signed]; omega
  have n1 : IntKind.i64.wrap (S / 60) = S / 60 := by simp [IntKind.wrap, IntKind.bits, IntKind.signed]; omega
  have g0 : IntKind.u16.wrap (S / 3600) = S / 3600 := by simp [IntKind.wrap, IntKind.bits, IntKind.signed]; omega
  have g1 : IntKind.u16.wrap (S / 60 % 60) = S / 60 % 60 := by simp [IntKind.wrap, IntKind.bits, IntKind.signed]; omega
  have g2 : IntKind.u16.wrap (S % 60) = S % 60 := by simp [IntKind.wrap, IntKind.bits, IntKind.signed]; omega
  have yd : Blk W.drew g 90 #[.int .i64 Y, .int .i64 M, .int .i64 D] := y3
  have xd : Blk W.drew w.heap.size 26 z8 := x3
  refine wp_region_held_drew (S := fun w' => w'.cell? ⟨g, 1, none⟩ = some (.int .i64 M)) (by kernel_rfl) (yd.cell 1) (fun hHeld => ?_)
  refine wpAnyH_take (i := 0) (oi := { dst := some 37, op := Op.fieldAddr 90 (Operand.tmp 6) 1, type := 0, pos := "ref.go:22", after := #[], guard := none }) (v := ?_) rfl (by kernel_rfl) (by kernel_rfl) (by kernel_rfl) (fun _ _ _ h => h) (Or.inl ⟨by rfl, ?_⟩) hHeld ?_
  rotate_left
  · intro w hSw
    try dsimp only at hSw
    go_simp
    try with_reducible rfl
  try simp only [Act.put, List.setIfInBounds_toArray, List.set_cons_zero, List.set_cons_succ]
  refine wpAnyH_take (i := 1) (oi := { dst := some 38, op := Op.load 3 (Operand.tmp 37), type := 3, pos := "ref.go:22", after := #[{ on := 0, ground := Ground.data }], guard := none }) (v := ?_) rfl (by kernel_rfl) (by kernel_rfl) (by kernel_rfl) (fun _ _ _ h => h) (Or.inl ⟨by rfl, ?_⟩) hHeld ?_
  rotate_left
  · intro w hSw
    try dsimp only at hSw
    go_simp
    try with_reducible rfl
  try simp only [Act.put, List.setIfInBounds_toArray, List.set_cons_zero, List.set_cons_succ]
  refine wpAnyH_take (i := 2) (oi := { dst := some 39, op := Op.convert 3 24 (Operand.tmp 38), type := 24, pos := "ref.go:22", after := #[{ on := 1, ground := Ground.data }], guard := none }) (v := ?_) rfl (by kernel_rfl) (by kernel_rfl) (by kernel_rfl) (fun _ _ _ h => h) (Or.inl ⟨by rfl, ?_⟩) hHeld ?_
  rotate_left
  · intro w hSw
    try dsimp only at hSw
    go_simp
    try with_reducible rfl
  try simp only [Act.put, List.setIfInBounds_toArray, List.set_cons_zero, List.set_cons_succ]
  refine wpAnyH_take (i := 3) (oi := { dst := some 40, op := Op.move (Operand.tmp 4), type := 2, pos := "ref.go:22", after := #[], guard := none }) (v := ?_) rfl (by kernel_rfl) (by kernel_rfl) (by kernel_rfl) (fun _ _ _ h => h) (Or.inl ⟨by rfl, ?_⟩) hHeld ?_
  rotate_left
  · intro w hSw
    try dsimp only at hSw
    go_simp
    try with_reducible rfl
  try simp only [Act.put, List.setIfInBounds_toArray, List.set_cons_zero, List.set_cons_succ]
  refine wpAnyH_take (i := 6) (oi := { dst := some 43, op := Op.move (Operand.tmp 5), type := 2, pos := "ref.go:22", after := #[], guard := none }) (v := ?_) rfl (by kernel_rfl) (by kernel_rfl) (by kernel_rfl) (fun _ _ _ h => h) (Or.inl ⟨by rfl, ?_⟩) hHeld ?_
  rotate_left
  · intro w hSw
    try dsimp only at hSw
    go_simp
    try with_reducible rfl
  try simp only [Act.put, List.setIfInBounds_toArray, List.set_cons_zero, List.set_cons_succ]
  refine wpAnyH_take (i := 7) (oi := { dst := some 44, op := Op.binOp BinOp.quo 2 (Operand.tmp 43) (Operand.const (Value.int IntKind.i64 3600)) 2, type := 2, pos := "ref.go:22", after := #[{ on := 6, ground := Ground.data }], guard := none }) (v := ?_) rfl (by kernel_rfl) (by kernel_rfl) (by kernel_rfl) (fun _ _ _ h => h) (Or.inl ⟨by rfl, ?_⟩) hHeld ?_
  rotate_left
  · intro w hSw
    try dsimp only at hSw
    go_simp
    try with_reducible rfl
  try simp only [Act.put, List.setIfInBounds_toArray, List.set_cons_zero, List.set_cons_succ]
  refine wpAnyH_take (i := 8) (oi := { dst := some 45, op := Op.convert 2 24 (Operand.tmp 44), type := 24, pos := "ref.go:22", after := #[{ on := 7, ground := Ground.data }], guard := none }) (v := ?_) rfl (by kernel_rfl) (by kernel_rfl) (by kernel_rfl) (fun _ _ _ h => h) (Or.inl ⟨by rfl, ?_⟩) hHeld ?_
  rotate_left
  · intro w hSw
    try dsimp only at hSw
    go_simp
    try with_reducible rfl
  try simp only [Act.put, List.setIfInBounds_toArray, List.set_cons_zero, List.set_cons_succ]
  refine wpAnyH_take (i := 9) (oi := { dst := some 46, op := Op.move (Operand.tmp 5), type := 2, pos := "ref.go:22", after := #[], guard := none }) (v := ?_) rfl (by kernel_rfl) (by kernel_rfl) (by kernel_rfl) (fun _ _ _ h => h) (Or.inl ⟨by rfl, ?_⟩) hHeld ?_
  rotate_left
  · intro w hSw
    try dsimp only at hSw
    go_simp
    try with_reducible rfl
  try simp only [Act.put, List.setIfInBounds_toArray, List.set_cons_zero, List.set_cons_succ]
  refine wpAnyH_take (i := 10) (oi := { dst := some 47, op := Op.binOp BinOp.quo 2 (Operand.tmp 46) (Operand.const (Value.int IntKind.i64 60)) 2, type := 2, pos := "ref.go:22", after := #[{ on := 9, ground := Ground.data }], guard := none }) (v := ?_) rfl (by kernel_rfl) (by kernel_rfl) (by kernel_rfl) (fun _ _ _ h => h) (Or.inl ⟨by rfl, ?_⟩) hHeld ?_
  rotate_left
  · intro w hSw
    try dsimp only at hSw
    go_simp
    try with_reducible rfl
  try simp only [Act.put, List.setIfInBounds_toArray, List.set_cons_zero, List.set_cons_succ]
  refine wpAnyH_take (i := 11) (oi := { dst := some 48, op := Op.binOp BinOp.rem 2 (Operand.tmp 47) (Operand.const (Value.int IntKind.i64 60)) 2, type := 2, pos := "ref.go:22", after := #[{ on := 10, ground := Ground.data }], guard := none }) (v := ?_) rfl (by kernel_rfl) (by kernel_rfl) (by kernel_rfl) (fun _ _ _ h => h) (Or.inl ⟨by rfl, ?_⟩) hHeld ?_
  rotate_left
  · intro w hSw
    try dsimp only at hSw
    go_simp
    try with_reducible rfl
  try simp only [Act.put, List.setIfInBounds_toArray, List.set_cons_zero, List.set_cons_succ]
  refine wpAnyH_take (i := 12) (oi := { dst := some 49, op := Op.convert 2 24 (Operand.tmp 48), type := 24, pos := "ref.go:22", after := #[{ on := 11, ground := Ground.data }], guard := none }) (v := ?_) rfl (by kernel_rfl) (by kernel_rfl) (by kernel_rfl) (fun _ _ _ h => h) (Or.inl ⟨by rfl, ?_⟩) hHeld ?_
  rotate_left
  · intro w hSw
    try dsimp only at hSw
    go_simp
    try with_reducible rfl
  try simp only [Act.put, List.setIfInBounds_toArray, List.set_cons_zero, List.set_cons_succ]
  refine wpAnyH_take (i := 13) (oi := { dst := some 50, op := Op.move (Operand.tmp 5), type := 2, pos := "ref.go:22", after := #[], guard := none }) (v := ?_) rfl (by kernel_rfl) (by kernel_rfl) (by kernel_rfl) (fun _ _ _ h => h) (Or.inl ⟨by rfl, ?_⟩) hHeld ?_
  rotate_left
  · intro w hSw
    try dsimp only at hSw
    go_simp
    try with_reducible rfl
  try simp only [Act.put, List.setIfInBounds_toArray, List.set_cons_zero, List.set_cons_succ]
  refine wpAnyH_take (i := 14) (oi := { dst := some 51, op := Op.binOp BinOp.rem 2 (Operand.tmp 50) (Operand.const (Value.int IntKind.i64 60)) 2, type := 2, pos := "ref.go:22", after := #[{ on := 13, ground := Ground.data }], guard := none }) (v := ?_) rfl (by kernel_rfl) (by kernel_rfl) (by kernel_rfl) (fun _ _ _ h => h) (Or.inl ⟨by rfl, ?_⟩) hHeld ?_
  rotate_left
  · intro w hSw
    try dsimp only at hSw
    go_simp
    try with_reducible rfl
  try simp only [Act.put, List.setIfInBounds_toArray, List.set_cons_zero, List.set_cons_succ]
  refine wpAnyH_take (i := 15) (oi := { dst := some 52, op := Op.convert 2 24 (Operand.tmp 51), type := 24, pos := "ref.go:22", after := #[{ on := 14, ground := Ground.data }], guard := none }) (v := ?_) rfl (by kernel_rfl) (by kernel_rfl) (by kernel_rfl) (fun _ _ _ h => h) (Or.inl ⟨by rfl, ?_⟩) hHeld ?_
  rotate_left
  · intro w hSw
    try dsimp only at hSw
    go_simp
    try with_reducible rfl
  try simp only [Act.put, List.setIfInBounds_toArray, List.set_cons_zero, List.set_cons_succ]
  refine wpAnyH_ready (rs := [4, 17]) (by kernel_rfl) (by simp) ?_
  refine AllReadyH.cons (o := { dst := some 41, op := Op.call { callee := Callee.value (Operand.func 55), args := #[Operand.tmp 40], argTypes := #[2] }, type := 3, pos := "ref.go:22", after := #[{ on := 3, ground := Ground.data }], guard := none }) rfl (fun K hK => ?_) (AllReadyH.cons (o := { dst := some 10, op := Op.alloc 26, type := 0, pos := "ref.go:22", after := #[], guard := none }) rfl (fun K hK => ?_) (AllReadyH.nil))
  · skip
    go_simp
    refine (hv _).mono ?_; rintro e wq ⟨rfl, rfl⟩
    try go_wp2_with fail
    refine hK.out _ _ (hHeld) (fun hHeld2 => ?_)
    clear hK K hHeld; have hHeld := hHeld2; clear hHeld2
    try simp only [Act.put, List.setIfInBounds_toArray, List.set_cons_zero, List.set_cons_succ]
    refine wpAnyH_take (i := 5) (oi := { dst := some 42, op := Op.convert 3 24 (Operand.tmp 41), type := 24, pos := "ref.go:22", after := #[{ on := 4, ground := Ground.data }], guard := none }) (v := ?_) rfl (by kernel_rfl) (by kernel_rfl) (by kernel_rfl) (fun _ _ _ h => h) (Or.inl ⟨by rfl, ?_⟩) hHeld ?_
    rotate_left
    · intro w hSw
      try dsimp only at hSw
      go_simp
      try with_reducible rfl
    try simp only [Act.put, List.setIfInBounds_toArray, List.set_cons_zero, List.set_cons_succ]
    refine wpAnyH_take (i := 16) (oi := { dst := some 53, op := Op.build 26 #[(1, Operand.tmp 39), (2, Operand.tmp 42), (3, Operand.const (Value.int IntKind.u16 5)), (4, Operand.tmp 45), (5, Operand.tmp 49), (6, Operand.tmp 52)], type := 26, pos := "ref.go:22", after := #[{ on := 2, ground := Ground.data }, { on := 5, ground := Ground.data }, { on := 8, ground := Ground.data }, { on := 12, ground := Ground.data }, { on := 15, ground := Ground.data }], guard := none }) (v := ?_) rfl (by kernel_rfl) (by kernel_rfl) (by kernel_rfl) (fun _ _ _ h => h) (Or.inl ⟨by rfl, ?_⟩) hHeld ?_
    rotate_left
    · intro w hSw
      try dsimp only at hSw
      go_simp
      try with_reducible rfl
    try simp only [Act.put, List.setIfInBounds_toArray, List.set_cons_zero, List.set_cons_succ]
    refine wpAnyH_ready (rs := [17]) (by kernel_rfl) (by simp) ?_
    refine AllReadyH.cons (o := { dst := some 10, op := Op.alloc 26, type := 0, pos := "ref.go:22", after := #[], guard := none }) rfl (fun K hK => ?_) (AllReadyH.nil)
    go_simp
    refine hK.out _ _ ((yd.alloc (.cells z8 26)).cell 1) (fun hHeld2 => ?_)
    clear hK K hHeld; have hHeld := hHeld2; clear hHeld2
    try simp only [Act.put, List.setIfInBounds_toArray, List.set_cons_zero, List.set_cons_succ]
    refine wpAnyH_ready (rs := [18]) (by kernel_rfl) (by simp) ?_
    refine AllReadyH.cons (o := { dst := none, op := Op.store 26 (Operand.tmp 10) (Operand.tmp 53), type := 0, pos := "ref.go:22", after := #[{ on := 17, ground := Ground.data }, { on := 16, ground := Ground.data }, { on := 4, ground := Ground.chain }, { on := 0, ground := Ground.phase }, { on := 1, ground := Ground.phase }, { on := 2, ground := Ground.phase }, { on := 3, ground := Ground.phase }, { on := 4, ground := Ground.phase }, { on := 5, ground := Ground.phase }, { on := 6, ground := Ground.phase }, { on := 7, ground := Ground.phase }, { on := 8, ground := Ground.phase }, { on := 9, ground := Ground.phase }, { on := 10, ground := Ground.phase }, { on := 11, ground := Ground.phase }, { on := 12, ground := Ground.phase }, { on := 13, ground := Ground.phase }, { on := 14, ground := Ground.phase }, { on := 15, ground := Ground.phase }, { on := 16, ground := Ground.phase }, { on := 17, ground := Ground.phase }], guard := none }) rfl (fun K hK => ?_) (AllReadyH.nil)
    refine wp_store_g 26 (.tmp 10) (.tmp 53) rfl rfl W.heap.size 0 #[.int .u16 0, .int .u16 M, .int .u16 V, .int .u16 5, .int .u16 (S / 3600), .int .u16 (S / 60 % 60), .int .u16 (S % 60), .int .u16 0] #[.int .u16 0, .int .u16 M, .int .u16 V, .int .u16 5, .int .u16 (S / 3600), .int .u16 (S / 60 % 60), .int .u16 (S % 60), .int .u16 0] rfl rfl _ z8 (Blk.new W.drew 26 z8) (by show 0 + 8 ≤ 8; decide) (by kernel_rfl) (by kernel_rfl) (by kernel_rfl) ?_
    refine hK.out _ _ ((Blk.rowFar (yd.alloc (.cells z8 26)) (show g ≠ W.heap.size by omega) #[.int .u16 0, .int .u16 M, .int .u16 V, .int .u16 5, .int .u16 (S / 3600), .int .u16 (S / 60 % 60), .int .u16 (S % 60), .int .u16 0]).cell 1) (fun hHeld2 => ?_)
    clear hK K hHeld; have hHeld := hHeld2; clear hHeld2
    try simp only [Act.put, List.setIfInBounds_toArray, List.set_cons_zero, List.set_cons_succ]
    refine wpAnyH_done (by kernel_rfl) ?_ _
    have x5 : Blk ((W.alloc (.cells z8 26)).drew.setRow W.heap.size #[.int .u16 0, .int .u16 M, .int .u16 V, .int .u16 5, .int .u16 (S / 3600), .int .u16 (S / 60 % 60), .int .u16 (S % 60), .int .u16 0]) w.heap.size 26 z8 := Blk.rowFar (xd.alloc (.cells z8 26)) (show w.heap.size ≠ W.heap.size by omega) #[.int .u16 0, .int .u16 M, .int .u16 V, .int .u16 5, .int .u16 (S / 3600), .int .u16 (S / 60 % 60), .int .u16 (S % 60), .int .u16 0]
    have y5 : Blk ((W.alloc (.cells z8 26)).drew.setRow W.heap.size #[.int .u16 0, .int .u16 M, .int .u16 V, .int .u16 5, .int .u16 (S / 3600), .int .u16 (S / 60 % 60), .int .u16 (S % 60), .int .u16 0]) g 90 #[.int .i64 Y, .int .i64 M, .int .i64 D] := Blk.rowFar (yd.alloc (.cells z8 26)) (show g ≠ W.heap.size by omega) #[.int .u16 0, .int .u16 M, .int .u16 V, .int .u16 5, .int .u16 (S / 3600), .int .u16 (S / 60 % 60), .int .u16 (S % 60), .int .u16 0]
    have t5 : Blk ((W.alloc (.cells z8 26)).drew.setRow W.heap.size #[.int .u16 0, .int .u16 M, .int .u16 V, .int .u16 5, .int .u16 (S / 3600), .int .u16 (S / 60 % 60), .int .u16 (S % 60), .int .u16 0]) W.heap.size 26 #[.int .u16 0, .int .u16 M, .int .u16 V, .int .u16 5, .int .u16 (S / 3600), .int .u16 (S / 60 % 60), .int .u16 (S % 60), .int .u16 0] := Blk.row (Blk.new W.drew 26 z8) #[.int .u16 0, .int .u16 M, .int .u16 V, .int .u16 5, .int .u16 (S / 3600), .int .u16 (S / 60 % 60), .int .u16 (S % 60), .int .u16 0]
    have B5 : Below w.heap.size w ((W.alloc (.cells z8 26)).drew.setRow W.heap.size #[.int .u16 0, .int .u16 M, .int .u16 V, .int .u16 5, .int .u16 (S / 3600), .int .u16 (S / 60 % 60), .int .u16 (S % 60), .int .u16 0]) := below_row (B3.drew.alloc B3.drew.size (.cells z8 26)) (show w.heap.size ≤ W.heap.size by omega) #[.int .u16 0, .int .u16 M, .int .u16 V, .int .u16 5, .int .u16 (S / 3600), .int .u16 (S / 60 % 60), .int .u16 (S % 60), .int .u16 0]
    have zw : w.heap.size < W.heap.size := by omega
    clear hHeld xd yd x3 y3 B3
    generalize ((W.alloc (.cells z8 26)).drew.setRow W.heap.size #[.int .u16 0, .int .u16 M, .int .u16 V, .int .u16 5, .int .u16 (S / 3600), .int .u16 (S / 60 % 60), .int .u16 (S % 60), .int .u16 0]) = W5 at *
    generalize W.heap.size = g5 at *
    have k5 := y5.cell 2
    simp at k5
    have c3 := t5.cell 3
    have f3 := t5.frozen 3
    simp at c3
    have p0 : (D + 6).tdiv 7 = (D - 1) / 7 + 1 := by rw [Int.tdiv_eq_ediv_of_nonneg (by omega)]; omega
    have p1 : IntKind.u16.wrap ((D - 1) / 7 + 1) = (D - 1) / 7 + 1 := by simp [IntKind.wrap, IntKind.bits, IntKind.signed]; omega
    have p2 : IntKind.i64.wrap ((D - 1) / 7 + 1) = (D - 1) / 7 + 1 := by simp [IntKind.wrap, IntKind.bits, IntKind.signed]; omega
    have t6 : Blk (W5.setCell ⟨g5, 3, none⟩ (.int .u16 ((D - 1) / 7 + 1))) g5 26 #[.int .u16 0, .int .u16 M, .int .u16 V, .int .u16 ((D - 1) / 7 + 1), .int .u16 (S / 3600), .int .u16 (S / 60 % 60), .int .u16 (S % 60), .int .u16 0] := t5.set_ 3 _
    have x6 := x5.far (p := ⟨g5, 3, none⟩) (by show w.heap.size ≠ g5; omega) (.int .u16 ((D - 1) / 7 + 1))
    have B6 := B5.setCell (p := ⟨g5, 3, none⟩) (by show w.heap.size ≤ g5; omega) (.int .u16 ((D - 1) / 7 + 1))
    go_wp2_with (first | refine wpList_row_g rfl 26 _ rfl _ rfl _ _ _ _ t6 Tryd.underlying26 rfl (by kernel_rfl) ?_ | refine wpList_store_g rfl 26 _ _ rfl rfl _ 0 #[.int .u16 0, .int .u16 M, .int .u16 V, .int .u16 ((D - 1) / 7 + 1), .int .u16 (S / 3600), .int .u16 (S / 60 % 60), .int .u16 (S % 60), .int .u16 0] #[.int .u16 0, .int .u16 M, .int .u16 V, .int .u16 ((D - 1) / 7 + 1), .int .u16 (S / 3600), .int .u16 (S / 60 % 60), .int .u16 (S % 60), .int .u16 0] rfl rfl _ _ x6 (by show 0 + 8 ≤ 8; decide) (by kernel_rfl) (by kernel_rfl) (by kernel_rfl) ?_)
    exact bodyPost_ret (res_ct rfl _ _ _ _ _ _ _ rfl rfl (Blk.row x6 _) Tryd.underlying26 rfl (by kernel_rfl)) rfl ⟨rfl, below_row B6 (Nat.le_refl _) _⟩
  · skip
    go_simp
    refine hK.out _ _ ((yd.alloc (.cells z8 26)).cell 1) (fun hHeld2 => ?_)
    clear hK K hHeld; have hHeld := hHeld2; clear hHeld2
    try simp only [Act.put, List.setIfInBounds_toArray, List.set_cons_zero, List.set_cons_succ]
    refine wpAnyH_ready (rs := [4]) (by kernel_rfl) (by simp) ?_
    refine AllReadyH.cons (o := { dst := some 41, op := Op.call { callee := Callee.value (Operand.func 55), args := #[Operand.tmp 40], argTypes := #[2] }, type := 3, pos := "ref.go:22", after := #[{ on := 3, ground := Ground.data }], guard := none }) rfl (fun K hK => ?_) (AllReadyH.nil)
    go_simp
    refine (hv _).mono ?_; rintro e wq ⟨rfl, rfl⟩
    try go_wp2_with fail
    refine hK.out _ _ (hHeld) (fun hHeld2 => ?_)
    clear hK K hHeld; have hHeld := hHeld2; clear hHeld2
    try simp only [Act.put, List.setIfInBounds_toArray, List.set_cons_zero, List.set_cons_succ]
    refine wpAnyH_take (i := 5) (oi := { dst := some 42, op := Op.convert 3 24 (Operand.tmp 41), type := 24, pos := "ref.go:22", after := #[{ on := 4, ground := Ground.data }], guard := none }) (v := ?_) rfl (by kernel_rfl) (by kernel_rfl) (by kernel_rfl) (fun _ _ _ h => h) (Or.inl ⟨by rfl, ?_⟩) hHeld ?_
    rotate_left
    · intro w hSw
      try dsimp only at hSw
      go_simp
      try with_reducible rfl
    try simp only [Act.put, List.setIfInBounds_toArray, List.set_cons_zero, List.set_cons_succ]
    refine wpAnyH_take (i := 16) (oi := { dst := some 53, op := Op.build 26 #[(1, Operand.tmp 39), (2, Operand.tmp 42), (3, Operand.const (Value.int IntKind.u16 5)), (4, Operand.tmp 45), (5, Operand.tmp 49), (6, Operand.tmp 52)], type := 26, pos := "ref.go:22", after := #[{ on := 2, ground := Ground.data }, { on := 5, ground := Ground.data }, { on := 8, ground := Ground.data }, { on := 12, ground := Ground.data }, { on := 15, ground := Ground.data }], guard := none }) (v := ?_) rfl (by kernel_rfl) (by kernel_rfl) (by kernel_rfl) (fun _ _ _ h => h) (Or.inl ⟨by rfl, ?_⟩) hHeld ?_
    rotate_left
    · intro w hSw
      try dsimp only at hSw
      go_simp
      try with_reducible rfl
    try simp only [Act.put, List.setIfInBounds_toArray, List.set_cons_zero, List.set_cons_succ]
    refine wpAnyH_ready (rs := [18]) (by kernel_rfl) (by simp) ?_
    refine AllReadyH.cons (o := { dst := none, op := Op.store 26 (Operand.tmp 10) (Operand.tmp 53), type := 0, pos := "ref.go:22", after := #[{ on := 17, ground := Ground.data }, { on := 16, ground := Ground.data }, { on := 4, ground := Ground.chain }, { on := 0, ground := Ground.phase }, { on := 1, ground := Ground.phase }, { on := 2, ground := Ground.phase }, { on := 3, ground := Ground.phase }, { on := 4, ground := Ground.phase }, { on := 5, ground := Ground.phase }, { on := 6, ground := Ground.phase }, { on := 7, ground := Ground.phase }, { on := 8, ground := Ground.phase }, { on := 9, ground := Ground.phase }, { on := 10, ground := Ground.phase }, { on := 11, ground := Ground.phase }, { on := 12, ground := Ground.phase }, { on := 13, ground := Ground.phase }, { on := 14, ground := Ground.phase }, { on := 15, ground := Ground.phase }, { on := 16, ground := Ground.phase }, { on := 17, ground := Ground.phase }], guard := none }) rfl (fun K hK => ?_) (AllReadyH.nil)
    refine wp_store_g 26 (.tmp 10) (.tmp 53) rfl rfl W.heap.size 0 #[.int .u16 0, .int .u16 M, .int .u16 V, .int .u16 5, .int .u16 (S / 3600), .int .u16 (S / 60 % 60), .int .u16 (S % 60), .int .u16 0] #[.int .u16 0, .int .u16 M, .int .u16 V, .int .u16 5, .int .u16 (S / 3600), .int .u16 (S / 60 % 60), .int .u16 (S % 60), .int .u16 0] rfl rfl _ z8 (Blk.new W.drew 26 z8) (by show 0 + 8 ≤ 8; decide) (by kernel_rfl) (by kernel_rfl) (by kernel_rfl) ?_
    refine hK.out _ _ ((Blk.rowFar (yd.alloc (.cells z8 26)) (show g ≠ W.heap.size by omega) #[.int .u16 0, .int .u16 M, .int .u16 V, .int .u16 5, .int .u16 (S / 3600), .int .u16 (S / 60 % 60), .int .u16 (S % 60), .int .u16 0]).cell 1) (fun hHeld2 => ?_)
    clear hK K hHeld; have hHeld := hHeld2; clear hHeld2
    try simp only [Act.put, List.setIfInBounds_toArray, List.set_cons_zero, List.set_cons_succ]
    refine wpAnyH_done (by kernel_rfl) ?_ _
    have x5 : Blk ((W.alloc (.cells z8 26)).drew.setRow W.heap.size #[.int .u16 0, .int .u16 M, .int .u16 V, .int .u16 5, .int .u16 (S / 3600), .int .u16 (S / 60 % 60), .int .u16 (S % 60), .int .u16 0]) w.heap.size 26 z8 := Blk.rowFar (xd.alloc (.cells z8 26)) (show w.heap.size ≠ W.heap.size by omega) #[.int .u16 0, .int .u16 M, .int .u16 V, .int .u16 5, .int .u16 (S / 3600), .int .u16 (S / 60 % 60), .int .u16 (S % 60), .int .u16 0]
    have y5 : Blk ((W.alloc (.cells z8 26)).drew.setRow W.heap.size #[.int .u16 0, .int .u16 M, .int .u16 V, .int .u16 5, .int .u16 (S / 3600), .int .u16 (S / 60 % 60), .int .u16 (S % 60), .int .u16 0]) g 90 #[.int .i64 Y, .int .i64 M, .int .i64 D] := Blk.rowFar (yd.alloc (.cells z8 26)) (show g ≠ W.heap.size by omega) #[.int .u16 0, .int .u16 M, .int .u16 V, .int .u16 5, .int .u16 (S / 3600), .int .u16 (S / 60 % 60), .int .u16 (S % 60), .int .u16 0]
    have t5 : Blk ((W.alloc (.cells z8 26)).drew.setRow W.heap.size #[.int .u16 0, .int .u16 M, .int .u16 V, .int .u16 5, .int .u16 (S / 3600), .int .u16 (S / 60 % 60), .int .u16 (S % 60), .int .u16 0]) W.heap.size 26 #[.int .u16 0, .int .u16 M, .int .u16 V, .int .u16 5, .int .u16 (S / 3600), .int .u16 (S / 60 % 60), .int .u16 (S % 60), .int .u16 0] := Blk.row (Blk.new W.drew 26 z8) #[.int .u16 0, .int .u16 M, .int .u16 V, .int .u16 5, .int .u16 (S / 3600), .int .u16 (S / 60 % 60), .int .u16 (S % 60), .int .u16 0]
    have B5 : Below w.heap.size w ((W.alloc (.cells z8 26)).drew.setRow W.heap.size #[.int .u16 0, .int .u16 M, .int .u16 V, .int .u16 5, .int .u16 (S / 3600), .int .u16 (S / 60 % 60), .int .u16 (S % 60), .int .u16 0]) := below_row (B3.drew.alloc B3.drew.size (.cells z8 26)) (show w.heap.size ≤ W.heap.size by omega) #[.int .u16 0, .int .u16 M, .int .u16 V, .int .u16 5, .int .u16 (S / 3600), .int .u16 (S / 60 % 60), .int .u16 (S % 60), .int .u16 0]
    have zw : w.heap.size < W.heap.size := by omega
    clear hHeld xd yd x3 y3 B3
    generalize ((W.alloc (.cells z8 26)).drew.setRow W.heap.size #[.int .u16 0, .int .u16 M, .int .u16 V, .int .u16 5, .int .u16 (S / 3600), .int .u16 (S / 60 % 60), .int .u16 (S % 60), .int .u16 0]) = W5 at *
    generalize W.heap.size = g5 at *
    have k5 := y5.cell 2
    simp at k5
    have c3 := t5.cell 3
    have f3 := t5.frozen 3
    simp at c3
    have p0 : (D + 6).tdiv 7 = (D - 1) / 7 + 1 := by rw [Int.tdiv_eq_ediv_of_nonneg (by omega)]; omega
    have p1 : IntKind.u16.wrap ((D - 1) / 7 + 1) = (D - 1) / 7 + 1 := by simp [IntKind.wrap, IntKind.bits, IntKind.signed]; omega
    have p2 : IntKind.i64.wrap ((D - 1) / 7 + 1) = (D - 1) / 7 + 1 := by simp [IntKind.wrap, IntKind.bits, IntKind.signed]; omega
    have t6 : Blk (W5.setCell ⟨g5, 3, none⟩ (.int .u16 ((D - 1) / 7 + 1))) g5 26 #[.int .u16 0, .int .u16 M, .int .u16 V, .int .u16 ((D - 1) / 7 + 1), .int .u16 (S / 3600), .int .u16 (S / 60 % 60), .int .u16 (S % 60), .int .u16 0] := t5.set_ 3 _
    have x6 := x5.far (p := ⟨g5, 3, none⟩) (by show w.heap.size ≠ g5; omega) (.int .u16 ((D - 1) / 7 + 1))
    have B6 := B5.setCell (p := ⟨g5, 3, none⟩) (by show w.heap.size ≤ g5; omega) (.int .u16 ((D - 1) / 7 + 1))
    go_wp2_with (first | refine wpList_row_g rfl 26 _ rfl _ rfl _ _ _ _ t6 Tryd.underlying26 rfl (by kernel_rfl) ?_ | refine wpList_store_g rfl 26 _ _ rfl rfl _ 0 #[.int .u16 0, .int .u16 M, .int .u16 V, .int .u16 ((D - 1) / 7 + 1), .int .u16 (S / 3600), .int .u16 (S / 60 % 60), .int .u16 (S % 60), .int .u16 0] #[.int .u16 0, .int .u16 M, .int .u16 V, .int .u16 ((D - 1) / 7 + 1), .int .u16 (S / 3600), .int .u16 (S / 60 % 60), .int .u16 (S % 60), .int .u16 0] rfl rfl _ _ x6 (by show 0 + 8 ≤ 8; decide) (by kernel_rfl) (by kernel_rfl) (by kernel_rfl) ?_)
    exact bodyPost_ret (res_ct rfl _ _ _ _ _ _ _ rfl rfl (Blk.row x6 _) Tryd.underlying26 rfl (by kernel_rfl)) rfl ⟨rfl, below_row B6 (Nat.le_refl _) _⟩
end Go.Proofs.YtginidedeefcdaaDoor.Ft
