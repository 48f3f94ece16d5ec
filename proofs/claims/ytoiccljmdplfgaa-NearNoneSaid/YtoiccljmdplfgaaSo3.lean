/-
  THE STABLE SORT OF PLACES: rows exchanged and turned: walked.
-/
import Derived.Test.YtoiccljmdplfgaaSo2
namespace Go.Proofs.Ytoiccljmdplfgaa.So
open Go.ChangeShapes Go.WideShapes Go.ChangeAt Go.RowKit
open Go.Proofs.Ytoiccljmdplfgaa
open Go.Proofs.Ytoiccljmdplfgaa.Wd
open Go.Proofs.Ytoiccljmdplfgaa.Nr (Only cmpF)
set_option linter.unusedVariables false
set_option linter.unusedSimpArgs false
def SwP (gO gT gF n : Nat) (far : Nat → Int) (a' : Fn_) (W : World) (e : Ending) (w' : World) : Prop := e = .returned (.tuple #[]) ∧ En gO gT gF n far a' w' ∧ Only gO W w'
set_option maxRecDepth 1000000 in
set_option maxHeartbeats 6400000 in
theorem swr_any (gO gT gF n : Nat) (far : Nat → Int) (P Q C : Int) (p q c : Nat) (hP : P = (p : Int)) (hQ : Q = (q : Int)) (hC : C = (c : Int)) (a : Fn_) (W : World) (h : En gO gT gF n far a W) (h1 : gO ≠ gT) (h2 : gO ≠ gF) (hn : n ≤ 4096) (hpq : p + c ≤ q) (hq : q + c ≤ n) :
    Calls Try.prog 113 #[.slice (some ⟨gO, 0, none⟩) n n, .int .i64 P, .int .i64 Q, .int .i64 C, cmpF gT] W (SwP gO gT gF n far (swr a p q c) W) := by
  subst hP hQ hC
  go_enter Try.func113, Try.ntmps113
  go_wp2_with fail
  go_loopw [10] (fun v wr => ∃ k : Nat, v = .int .i64 k ∧ k ≤ c ∧ En gO gT gF n far (swr a p q k) wr ∧ Only gO W wr) (fun v _ => c - (intOf v).toNat)
  case atStart => exact ⟨0, rfl, Nat.zero_le _, by rw [swr_0]; exact h, Only.refl _ _⟩
  case round =>
    clear h
    obtain ⟨k, rfl, hk, hE, hO⟩ := hrel
    by_cases hlt : k < c
    · have hlt' : (k : Int) < (c : Int) := by omega
      have b1 := hE.b (p + k) (by omega); have b2 := hE.b (q + k) (by omega)
      have hst := swr_succ a p q k (by omega)
      have e1 : IntKind.i64.wrap ((p : Int) + (k : Int)) = (p : Int) + (k : Int) := IntWalk.i64_in _ (by omega)
      have e2 : IntKind.i64.wrap ((q : Int) + (k : Int)) = (q : Int) + (k : Int) := IntWalk.i64_in _ (by omega)
      have e3 : ((p : Int) + (k : Int)).toNat = p + k := by omega
      have e4 : ((q : Int) + (k : Int)).toNat = q + k := by omega
      have e5 : (0 : Int) ≤ (p : Int) + (k : Int) := by omega
      have e6 : (0 : Int) ≤ (q : Int) + (k : Int) := by omega
      have e7 : (p : Int) + (k : Int) < (n : Int) := by omega
      have e8 : (q : Int) + (k : Int) < (n : Int) := by omega
      obtain ⟨V0, hV0⟩ : ∃ V0 : World, V0 = wr := ⟨_, rfl⟩
      have hE0 : En gO gT gF n far (swr a p q k) V0 := by rw [hV0]; exact hE
      have hO0 : Only gO W V0 := by rw [hV0]; exact hO
      have hE2 := hE0.drew.swp_ h1 h2 (show p + k < n by omega) (show q + k < n by omega) (show p + k ≠ q + k by omega)
      rw [hst] at hE2
      obtain ⟨vx, hvx⟩ : ∃ v, swr a p q k (p + k) = v := ⟨_, rfl⟩
      obtain ⟨vy, hvy⟩ : ∃ v, swr a p q k (q + k) = v := ⟨_, rfl⟩
      have hO2 := only_set (only_set hO0.drew (p + k) (.int .i64 (vy : Nat))) (q + k) (.int .i64 (vx : Nat))
      have c1 : V0.drew.cell? ⟨gO, p + k, none⟩ = some (.int .i64 (vx : Nat)) := by have := hE0.o.cell (i := p + k) (by omega); rw [hvx] at this; exact this
      have c2 : V0.drew.cell? ⟨gO, q + k, none⟩ = some (.int .i64 (vy : Nat)) := by have := hE0.o.cell (i := q + k) (by omega); rw [hvy] at this; exact this
      rw [hvx, hvy] at hE2
      have HE2 := Lib.hid hE2; have HO2 := Lib.hid hO2
      have hxy : (⟨gO, q + k, none⟩ : Addr) ≠ ⟨gO, p + k, none⟩ := fun e => by injection e with _ e _; omega
      rw [← hV0]
      clear hV0 hE2 hO2 hE hO hO0 b1 b2 hst hvx hvy
      go_upto_region 3 with fail
      obtain ⟨V1, hV1⟩ : ∃ V1 : World, V1 = V0.drew.setCell ⟨gO, p + k, none⟩ (.int .i64 (vy : Nat)) := ⟨_, rfl⟩
      obtain ⟨V2, hV2⟩ : ∃ V2 : World, V2 = V1.setCell ⟨gO, q + k, none⟩ (.int .i64 (vx : Nat)) := ⟨_, rfl⟩
      have hV1' : V1 = (V0.setCell ⟨gO, p + k, none⟩ (.int .i64 (vy : Nat))).drew := by rw [hV1, World.setCell_drew]
      have f1 : V0.drew.frozen? ⟨gO, p + k, none⟩ = false := hE0.o.frozen (p + k)
      have c2' : V1.cell? ⟨gO, q + k, none⟩ = some (.int .i64 (vy : Nat)) := by rw [hV1, World.cell?_setCell_other _ _ _ _ (Ne.symm hxy)]; exact c2
      have f2 : V1.frozen? ⟨gO, q + k, none⟩ = false := by rw [hV1, World.frozen?_setCell]; exact hE0.o.frozen (q + k)
      have t0 : V0.drew.cell? ⟨gT, 0, none⟩ = some (.slice (some ⟨gF, 0, none⟩) n n) := hE0.t.cell 0
      have t1 : V1.cell? ⟨gT, 0, none⟩ = some (.slice (some ⟨gF, 0, none⟩) n n) := by rw [hV1, World.cell?_setCell_other _ _ _ _ (fun e => h1 (congrArg Addr.block e))]; exact t0
      have t2 : V2.cell? ⟨gT, 0, none⟩ = some (.slice (some ⟨gF, 0, none⟩) n n) := by rw [hV2, World.cell?_setCell_other _ _ _ _ (fun e => h1 (congrArg Addr.block e))]; exact t1
      have HV1 := Lib.hid hV1'; have HV1b := Lib.hid hV1; have HV2 := Lib.hid hV2; clear hV1' hV1 hV2
      refine wp_region_held_drew (S := fun w' => w'.cell? ⟨gT, 0, none⟩ = some (.slice (some ⟨gF, 0, none⟩) n n)) (by kernel_rfl) (t0) (fun hHeld => ?_)
      refine wpAnyH_take (i := 0) (oi := { dst := some 16, op := Op.move (Operand.tmp 0), type := 69, pos := "zsortanyfunc.go:331", after := #[], guard := none }) (v := ?_) rfl (by kernel_rfl) (by kernel_rfl) (by kernel_rfl) (fun _ _ _ h => h) (Or.inl ⟨by rfl, ?_⟩) hHeld ?_
      rotate_left
      · intro w hSw
        try dsimp only at hSw
        go_simp
        try with_reducible rfl
      try simp only [Act.put, List.setIfInBounds_toArray, List.set_cons_zero, List.set_cons_succ]
      refine wpAnyH_take (i := 1) (oi := { dst := some 17, op := Op.move (Operand.tmp 1), type := 3, pos := "zsortanyfunc.go:331", after := #[], guard := none }) (v := ?_) rfl (by kernel_rfl) (by kernel_rfl) (by kernel_rfl) (fun _ _ _ h => h) (Or.inl ⟨by rfl, ?_⟩) hHeld ?_
      rotate_left
      · intro w hSw
        try dsimp only at hSw
        go_simp
        try with_reducible rfl
      try simp only [Act.put, List.setIfInBounds_toArray, List.set_cons_zero, List.set_cons_succ]
      refine wpAnyH_take (i := 2) (oi := { dst := some 18, op := Op.move (Operand.tmp 10), type := 3, pos := "zsortanyfunc.go:331", after := #[], guard := none }) (v := ?_) rfl (by kernel_rfl) (by kernel_rfl) (by kernel_rfl) (fun _ _ _ h => h) (Or.inl ⟨by rfl, ?_⟩) hHeld ?_
      rotate_left
      · intro w hSw
        try dsimp only at hSw
        go_simp
        try with_reducible rfl
      try simp only [Act.put, List.setIfInBounds_toArray, List.set_cons_zero, List.set_cons_succ]
      refine wpAnyH_take (i := 3) (oi := { dst := some 19, op := Op.binOp BinOp.add 3 (Operand.tmp 17) (Operand.tmp 18) 3, type := 3, pos := "zsortanyfunc.go:331", after := #[{ on := 1, ground := Ground.data }, { on := 2, ground := Ground.data }], guard := none }) (v := ?_) rfl (by kernel_rfl) (by kernel_rfl) (by kernel_rfl) (fun _ _ _ h => h) (Or.inl ⟨by rfl, ?_⟩) hHeld ?_
      rotate_left
      · intro w hSw
        try dsimp only at hSw
        go_simp
        try with_reducible rfl
      try simp only [Act.put, List.setIfInBounds_toArray, List.set_cons_zero, List.set_cons_succ]
      refine wpAnyH_take (i := 4) (oi := { dst := some 20, op := Op.move (Operand.tmp 0), type := 69, pos := "zsortanyfunc.go:331", after := #[{ on := 21, ground := Ground.gcOnly Departure.lateStores }], guard := none }) (v := ?_) rfl (by kernel_rfl) (by kernel_rfl) (by kernel_rfl) (fun _ _ _ h => h) (Or.inl ⟨by rfl, ?_⟩) hHeld ?_
      rotate_left
      · intro w hSw
        try dsimp only at hSw
        go_simp
        try with_reducible rfl
      try simp only [Act.put, List.setIfInBounds_toArray, List.set_cons_zero, List.set_cons_succ]
      refine wpAnyH_take (i := 5) (oi := { dst := some 21, op := Op.move (Operand.tmp 2), type := 3, pos := "zsortanyfunc.go:331", after := #[{ on := 21, ground := Ground.gcOnly Departure.lateStores }], guard := none }) (v := ?_) rfl (by kernel_rfl) (by kernel_rfl) (by kernel_rfl) (fun _ _ _ h => h) (Or.inl ⟨by rfl, ?_⟩) hHeld ?_
      rotate_left
      · intro w hSw
        try dsimp only at hSw
        go_simp
        try with_reducible rfl
      try simp only [Act.put, List.setIfInBounds_toArray, List.set_cons_zero, List.set_cons_succ]
      refine wpAnyH_take (i := 6) (oi := { dst := some 22, op := Op.move (Operand.tmp 10), type := 3, pos := "zsortanyfunc.go:331", after := #[{ on := 21, ground := Ground.gcOnly Departure.lateStores }], guard := none }) (v := ?_) rfl (by kernel_rfl) (by kernel_rfl) (by kernel_rfl) (fun _ _ _ h => h) (Or.inl ⟨by rfl, ?_⟩) hHeld ?_
      rotate_left
      · intro w hSw
        try dsimp only at hSw
        go_simp
        try with_reducible rfl
      try simp only [Act.put, List.setIfInBounds_toArray, List.set_cons_zero, List.set_cons_succ]
      refine wpAnyH_take (i := 7) (oi := { dst := some 23, op := Op.binOp BinOp.add 3 (Operand.tmp 21) (Operand.tmp 22) 3, type := 3, pos := "zsortanyfunc.go:331", after := #[{ on := 5, ground := Ground.data }, { on := 6, ground := Ground.data }, { on := 21, ground := Ground.gcOnly Departure.lateStores }], guard := none }) (v := ?_) rfl (by kernel_rfl) (by kernel_rfl) (by kernel_rfl) (fun _ _ _ h => h) (Or.inl ⟨by rfl, ?_⟩) hHeld ?_
      rotate_left
      · intro w hSw
        try dsimp only at hSw
        go_simp
        try with_reducible rfl
      try simp only [Act.put, List.setIfInBounds_toArray, List.set_cons_zero, List.set_cons_succ]
      refine wpAnyH_take (i := 8) (oi := { dst := some 24, op := Op.move (Operand.tmp 0), type := 69, pos := "zsortanyfunc.go:331", after := #[], guard := none }) (v := ?_) rfl (by kernel_rfl) (by kernel_rfl) (by kernel_rfl) (fun _ _ _ h => h) (Or.inl ⟨by rfl, ?_⟩) hHeld ?_
      rotate_left
      · intro w hSw
        try dsimp only at hSw
        go_simp
        try with_reducible rfl
      try simp only [Act.put, List.setIfInBounds_toArray, List.set_cons_zero, List.set_cons_succ]
      refine wpAnyH_take (i := 9) (oi := { dst := some 25, op := Op.move (Operand.tmp 2), type := 3, pos := "zsortanyfunc.go:331", after := #[], guard := none }) (v := ?_) rfl (by kernel_rfl) (by kernel_rfl) (by kernel_rfl) (fun _ _ _ h => h) (Or.inl ⟨by rfl, ?_⟩) hHeld ?_
      rotate_left
      · intro w hSw
        try dsimp only at hSw
        go_simp
        try with_reducible rfl
      try simp only [Act.put, List.setIfInBounds_toArray, List.set_cons_zero, List.set_cons_succ]
      refine wpAnyH_take (i := 10) (oi := { dst := some 26, op := Op.move (Operand.tmp 10), type := 3, pos := "zsortanyfunc.go:331", after := #[], guard := none }) (v := ?_) rfl (by kernel_rfl) (by kernel_rfl) (by kernel_rfl) (fun _ _ _ h => h) (Or.inl ⟨by rfl, ?_⟩) hHeld ?_
      rotate_left
      · intro w hSw
        try dsimp only at hSw
        go_simp
        try with_reducible rfl
      try simp only [Act.put, List.setIfInBounds_toArray, List.set_cons_zero, List.set_cons_succ]
      refine wpAnyH_take (i := 11) (oi := { dst := some 27, op := Op.binOp BinOp.add 3 (Operand.tmp 25) (Operand.tmp 26) 3, type := 3, pos := "zsortanyfunc.go:331", after := #[{ on := 9, ground := Ground.data }, { on := 10, ground := Ground.data }], guard := none }) (v := ?_) rfl (by kernel_rfl) (by kernel_rfl) (by kernel_rfl) (fun _ _ _ h => h) (Or.inl ⟨by rfl, ?_⟩) hHeld ?_
      rotate_left
      · intro w hSw
        try dsimp only at hSw
        go_simp
        try with_reducible rfl
      try simp only [Act.put, List.setIfInBounds_toArray, List.set_cons_zero, List.set_cons_succ]
      refine wpAnyH_take (i := 12) (oi := { dst := some 28, op := Op.indexAddr 69 (Operand.tmp 24) (Operand.tmp 27), type := 0, pos := "zsortanyfunc.go:331", after := #[{ on := 8, ground := Ground.data }, { on := 11, ground := Ground.data }], guard := none }) (v := ?_) rfl (by kernel_rfl) (by kernel_rfl) (by kernel_rfl) (fun _ _ _ h => h) (Or.inl ⟨by rfl, ?_⟩) hHeld ?_
      rotate_left
      · intro w hSw
        try dsimp only at hSw
        go_simp
        try with_reducible rfl
      try simp only [Act.put, List.setIfInBounds_toArray, List.set_cons_zero, List.set_cons_succ]
      refine wpAnyH_take (i := 14) (oi := { dst := some 30, op := Op.move (Operand.tmp 0), type := 69, pos := "zsortanyfunc.go:331", after := #[], guard := none }) (v := ?_) rfl (by kernel_rfl) (by kernel_rfl) (by kernel_rfl) (fun _ _ _ h => h) (Or.inl ⟨by rfl, ?_⟩) hHeld ?_
      rotate_left
      · intro w hSw
        try dsimp only at hSw
        go_simp
        try with_reducible rfl
      try simp only [Act.put, List.setIfInBounds_toArray, List.set_cons_zero, List.set_cons_succ]
      refine wpAnyH_take (i := 15) (oi := { dst := some 31, op := Op.move (Operand.tmp 1), type := 3, pos := "zsortanyfunc.go:331", after := #[], guard := none }) (v := ?_) rfl (by kernel_rfl) (by kernel_rfl) (by kernel_rfl) (fun _ _ _ h => h) (Or.inl ⟨by rfl, ?_⟩) hHeld ?_
      rotate_left
      · intro w hSw
        try dsimp only at hSw
        go_simp
        try with_reducible rfl
      try simp only [Act.put, List.setIfInBounds_toArray, List.set_cons_zero, List.set_cons_succ]
      refine wpAnyH_take (i := 16) (oi := { dst := some 32, op := Op.move (Operand.tmp 10), type := 3, pos := "zsortanyfunc.go:331", after := #[], guard := none }) (v := ?_) rfl (by kernel_rfl) (by kernel_rfl) (by kernel_rfl) (fun _ _ _ h => h) (Or.inl ⟨by rfl, ?_⟩) hHeld ?_
      rotate_left
      · intro w hSw
        try dsimp only at hSw
        go_simp
        try with_reducible rfl
      try simp only [Act.put, List.setIfInBounds_toArray, List.set_cons_zero, List.set_cons_succ]
      refine wpAnyH_take (i := 17) (oi := { dst := some 33, op := Op.binOp BinOp.add 3 (Operand.tmp 31) (Operand.tmp 32) 3, type := 3, pos := "zsortanyfunc.go:331", after := #[{ on := 15, ground := Ground.data }, { on := 16, ground := Ground.data }], guard := none }) (v := ?_) rfl (by kernel_rfl) (by kernel_rfl) (by kernel_rfl) (fun _ _ _ h => h) (Or.inl ⟨by rfl, ?_⟩) hHeld ?_
      rotate_left
      · intro w hSw
        try dsimp only at hSw
        go_simp
        try with_reducible rfl
      try simp only [Act.put, List.setIfInBounds_toArray, List.set_cons_zero, List.set_cons_succ]
      refine wpAnyH_take (i := 18) (oi := { dst := some 34, op := Op.indexAddr 69 (Operand.tmp 30) (Operand.tmp 33), type := 0, pos := "zsortanyfunc.go:331", after := #[{ on := 14, ground := Ground.data }, { on := 17, ground := Ground.data }], guard := none }) (v := ?_) rfl (by kernel_rfl) (by kernel_rfl) (by kernel_rfl) (fun _ _ _ h => h) (Or.inl ⟨by rfl, ?_⟩) hHeld ?_
      rotate_left
      · intro w hSw
        try dsimp only at hSw
        go_simp
        try with_reducible rfl
      try simp only [Act.put, List.setIfInBounds_toArray, List.set_cons_zero, List.set_cons_succ]
      refine wpAnyH_ready (rs := [13, 19]) (by kernel_rfl) (by simp) ?_
      refine AllReadyH.cons (o := { dst := some 29, op := Op.load 3 (Operand.tmp 28), type := 3, pos := "zsortanyfunc.go:331", after := #[{ on := 12, ground := Ground.data }], guard := none }) rfl (fun K hK => ?_) (AllReadyH.cons (o := { dst := some 35, op := Op.load 3 (Operand.tmp 34), type := 3, pos := "zsortanyfunc.go:331", after := #[{ on := 18, ground := Ground.data }], guard := none }) rfl (fun K hK => ?_) (AllReadyH.nil))
      · skip
        go_simp
        refine hK.out _ _ (t0) (fun hHeld2 => ?_)
        clear hK K hHeld; have hHeld := hHeld2; clear hHeld2
        try simp only [Act.put, List.setIfInBounds_toArray, List.set_cons_zero, List.set_cons_succ]
        refine wpAnyH_ready (rs := [19]) (by kernel_rfl) (by simp) ?_
        refine AllReadyH.cons (o := { dst := some 35, op := Op.load 3 (Operand.tmp 34), type := 3, pos := "zsortanyfunc.go:331", after := #[{ on := 18, ground := Ground.data }], guard := none }) rfl (fun K hK => ?_) (AllReadyH.nil)
        go_simp
        refine hK.out _ _ (t0) (fun hHeld2 => ?_)
        clear hK K hHeld; have hHeld := hHeld2; clear hHeld2
        try simp only [Act.put, List.setIfInBounds_toArray, List.set_cons_zero, List.set_cons_succ]
        refine wpAnyH_take (i := 20) (oi := { dst := some 36, op := Op.indexAddr 69 (Operand.tmp 16) (Operand.tmp 19), type := 0, pos := "zsortanyfunc.go:331", after := #[{ on := 0, ground := Ground.data }, { on := 3, ground := Ground.data }, { on := 0, ground := Ground.phase }, { on := 1, ground := Ground.phase }, { on := 2, ground := Ground.phase }, { on := 3, ground := Ground.phase }, { on := 4, ground := Ground.textOnly Departure.lateStores }, { on := 5, ground := Ground.textOnly Departure.lateStores }, { on := 6, ground := Ground.textOnly Departure.lateStores }, { on := 7, ground := Ground.textOnly Departure.lateStores }, { on := 8, ground := Ground.phase }, { on := 9, ground := Ground.phase }, { on := 10, ground := Ground.phase }, { on := 11, ground := Ground.phase }, { on := 12, ground := Ground.phase }, { on := 13, ground := Ground.phase }, { on := 14, ground := Ground.textOnly Departure.lateStores }, { on := 15, ground := Ground.textOnly Departure.lateStores }, { on := 16, ground := Ground.textOnly Departure.lateStores }, { on := 17, ground := Ground.textOnly Departure.lateStores }, { on := 18, ground := Ground.textOnly Departure.lateStoresUnsure }, { on := 19, ground := Ground.phase }], guard := none }) (v := ?_) rfl (by kernel_rfl) (by kernel_rfl) (by kernel_rfl) (fun _ _ _ h => h) (Or.inl ⟨by rfl, ?_⟩) hHeld ?_
        rotate_left
        · intro w hSw
          try dsimp only at hSw
          go_simp
          try with_reducible rfl
        try simp only [Act.put, List.setIfInBounds_toArray, List.set_cons_zero, List.set_cons_succ]
        refine wpAnyH_ready (rs := [21]) (by kernel_rfl) (by simp) ?_
        refine AllReadyH.cons (o := { dst := none, op := Op.store 3 (Operand.tmp 36) (Operand.tmp 29), type := 0, pos := "zsortanyfunc.go:331", after := #[{ on := 20, ground := Ground.data }, { on := 13, ground := Ground.data }, { on := 0, ground := Ground.phase }, { on := 1, ground := Ground.phase }, { on := 2, ground := Ground.phase }, { on := 3, ground := Ground.phase }, { on := 4, ground := Ground.textOnly Departure.lateStores }, { on := 5, ground := Ground.textOnly Departure.lateStores }, { on := 6, ground := Ground.textOnly Departure.lateStores }, { on := 7, ground := Ground.textOnly Departure.lateStores }, { on := 8, ground := Ground.phase }, { on := 9, ground := Ground.phase }, { on := 10, ground := Ground.phase }, { on := 11, ground := Ground.phase }, { on := 12, ground := Ground.phase }, { on := 13, ground := Ground.phase }, { on := 14, ground := Ground.textOnly Departure.lateStores }, { on := 15, ground := Ground.textOnly Departure.lateStores }, { on := 16, ground := Ground.textOnly Departure.lateStores }, { on := 17, ground := Ground.textOnly Departure.lateStores }, { on := 18, ground := Ground.textOnly Departure.lateStoresUnsure }, { on := 19, ground := Ground.phase }], guard := none }) rfl (fun K hK => ?_) (AllReadyH.nil)
        go_simp
        rw [← HV1.out]
        refine hK.out _ _ (t1) (fun hHeld2 => ?_)
        clear hK K hHeld; have hHeld := hHeld2; clear hHeld2
        try simp only [Act.put, List.setIfInBounds_toArray, List.set_cons_zero, List.set_cons_succ]
        refine wpAnyH_take (i := 22) (oi := { dst := some 37, op := Op.indexAddr 69 (Operand.tmp 20) (Operand.tmp 23), type := 0, pos := "zsortanyfunc.go:331", after := #[{ on := 4, ground := Ground.data }, { on := 7, ground := Ground.data }, { on := 0, ground := Ground.phase }, { on := 1, ground := Ground.phase }, { on := 2, ground := Ground.phase }, { on := 3, ground := Ground.phase }, { on := 4, ground := Ground.phase }, { on := 5, ground := Ground.phase }, { on := 6, ground := Ground.phase }, { on := 7, ground := Ground.phase }, { on := 8, ground := Ground.phase }, { on := 9, ground := Ground.phase }, { on := 10, ground := Ground.phase }, { on := 11, ground := Ground.phase }, { on := 12, ground := Ground.phase }, { on := 13, ground := Ground.phase }, { on := 14, ground := Ground.phase }, { on := 15, ground := Ground.phase }, { on := 16, ground := Ground.phase }, { on := 17, ground := Ground.phase }, { on := 18, ground := Ground.phase }, { on := 19, ground := Ground.phase }, { on := 20, ground := Ground.phase }, { on := 21, ground := Ground.phase }], guard := none }) (v := ?_) rfl (by kernel_rfl) (by kernel_rfl) (by kernel_rfl) (fun _ _ _ h => h) (Or.inl ⟨by rfl, ?_⟩) hHeld ?_
        rotate_left
        · intro w hSw
          try dsimp only at hSw
          go_simp
          try with_reducible rfl
        try simp only [Act.put, List.setIfInBounds_toArray, List.set_cons_zero, List.set_cons_succ]
        refine wpAnyH_ready (rs := [23]) (by kernel_rfl) (by simp) ?_
        refine AllReadyH.cons (o := { dst := none, op := Op.store 3 (Operand.tmp 37) (Operand.tmp 35), type := 0, pos := "zsortanyfunc.go:331", after := #[{ on := 22, ground := Ground.data }, { on := 19, ground := Ground.data }, { on := 21, ground := Ground.chain }, { on := 0, ground := Ground.phase }, { on := 1, ground := Ground.phase }, { on := 2, ground := Ground.phase }, { on := 3, ground := Ground.phase }, { on := 4, ground := Ground.phase }, { on := 5, ground := Ground.phase }, { on := 6, ground := Ground.phase }, { on := 7, ground := Ground.phase }, { on := 8, ground := Ground.phase }, { on := 9, ground := Ground.phase }, { on := 10, ground := Ground.phase }, { on := 11, ground := Ground.phase }, { on := 12, ground := Ground.phase }, { on := 13, ground := Ground.phase }, { on := 14, ground := Ground.phase }, { on := 15, ground := Ground.phase }, { on := 16, ground := Ground.phase }, { on := 17, ground := Ground.phase }, { on := 18, ground := Ground.phase }, { on := 19, ground := Ground.phase }, { on := 20, ground := Ground.phase }, { on := 21, ground := Ground.phase }], guard := none }) rfl (fun K hK => ?_) (AllReadyH.nil)
        go_simp
        rw [← HV2.out]
        refine hK.out _ _ (t2) (fun hHeld2 => ?_)
        clear hK K hHeld; have hHeld := hHeld2; clear hHeld2
        try simp only [Act.put, List.setIfInBounds_toArray, List.set_cons_zero, List.set_cons_succ]
        refine wpAnyH_done (by kernel_rfl) ?_ _
        clear hHeld
        go_wp2_with fail
        go_roundw
        case rel => exact ⟨k + 1, by go_num, by omega, by rw [HV2.out, HV1b.out]; exact HE2.out, by rw [HV2.out, HV1b.out]; exact HO2.out⟩
        case measure => simp [intOf]; omega
      · skip
        go_simp
        refine hK.out _ _ (t0) (fun hHeld2 => ?_)
        clear hK K hHeld; have hHeld := hHeld2; clear hHeld2
        try simp only [Act.put, List.setIfInBounds_toArray, List.set_cons_zero, List.set_cons_succ]
        refine wpAnyH_ready (rs := [13]) (by kernel_rfl) (by simp) ?_
        refine AllReadyH.cons (o := { dst := some 29, op := Op.load 3 (Operand.tmp 28), type := 3, pos := "zsortanyfunc.go:331", after := #[{ on := 12, ground := Ground.data }], guard := none }) rfl (fun K hK => ?_) (AllReadyH.nil)
        go_simp
        refine hK.out _ _ (t0) (fun hHeld2 => ?_)
        clear hK K hHeld; have hHeld := hHeld2; clear hHeld2
        try simp only [Act.put, List.setIfInBounds_toArray, List.set_cons_zero, List.set_cons_succ]
        refine wpAnyH_take (i := 20) (oi := { dst := some 36, op := Op.indexAddr 69 (Operand.tmp 16) (Operand.tmp 19), type := 0, pos := "zsortanyfunc.go:331", after := #[{ on := 0, ground := Ground.data }, { on := 3, ground := Ground.data }, { on := 0, ground := Ground.phase }, { on := 1, ground := Ground.phase }, { on := 2, ground := Ground.phase }, { on := 3, ground := Ground.phase }, { on := 4, ground := Ground.textOnly Departure.lateStores }, { on := 5, ground := Ground.textOnly Departure.lateStores }, { on := 6, ground := Ground.textOnly Departure.lateStores }, { on := 7, ground := Ground.textOnly Departure.lateStores }, { on := 8, ground := Ground.phase }, { on := 9, ground := Ground.phase }, { on := 10, ground := Ground.phase }, { on := 11, ground := Ground.phase }, { on := 12, ground := Ground.phase }, { on := 13, ground := Ground.phase }, { on := 14, ground := Ground.textOnly Departure.lateStores }, { on := 15, ground := Ground.textOnly Departure.lateStores }, { on := 16, ground := Ground.textOnly Departure.lateStores }, { on := 17, ground := Ground.textOnly Departure.lateStores }, { on := 18, ground := Ground.textOnly Departure.lateStoresUnsure }, { on := 19, ground := Ground.phase }], guard := none }) (v := ?_) rfl (by kernel_rfl) (by kernel_rfl) (by kernel_rfl) (fun _ _ _ h => h) (Or.inl ⟨by rfl, ?_⟩) hHeld ?_
        rotate_left
        · intro w hSw
          try dsimp only at hSw
          go_simp
          try with_reducible rfl
        try simp only [Act.put, List.setIfInBounds_toArray, List.set_cons_zero, List.set_cons_succ]
        refine wpAnyH_ready (rs := [21]) (by kernel_rfl) (by simp) ?_
        refine AllReadyH.cons (o := { dst := none, op := Op.store 3 (Operand.tmp 36) (Operand.tmp 29), type := 0, pos := "zsortanyfunc.go:331", after := #[{ on := 20, ground := Ground.data }, { on := 13, ground := Ground.data }, { on := 0, ground := Ground.phase }, { on := 1, ground := Ground.phase }, { on := 2, ground := Ground.phase }, { on := 3, ground := Ground.phase }, { on := 4, ground := Ground.textOnly Departure.lateStores }, { on := 5, ground := Ground.textOnly Departure.lateStores }, { on := 6, ground := Ground.textOnly Departure.lateStores }, { on := 7, ground := Ground.textOnly Departure.lateStores }, { on := 8, ground := Ground.phase }, { on := 9, ground := Ground.phase }, { on := 10, ground := Ground.phase }, { on := 11, ground := Ground.phase }, { on := 12, ground := Ground.phase }, { on := 13, ground := Ground.phase }, { on := 14, ground := Ground.textOnly Departure.lateStores }, { on := 15, ground := Ground.textOnly Departure.lateStores }, { on := 16, ground := Ground.textOnly Departure.lateStores }, { on := 17, ground := Ground.textOnly Departure.lateStores }, { on := 18, ground := Ground.textOnly Departure.lateStoresUnsure }, { on := 19, ground := Ground.phase }], guard := none }) rfl (fun K hK => ?_) (AllReadyH.nil)
        go_simp
        rw [← HV1.out]
        refine hK.out _ _ (t1) (fun hHeld2 => ?_)
        clear hK K hHeld; have hHeld := hHeld2; clear hHeld2
        try simp only [Act.put, List.setIfInBounds_toArray, List.set_cons_zero, List.set_cons_succ]
        refine wpAnyH_take (i := 22) (oi := { dst := some 37, op := Op.indexAddr 69 (Operand.tmp 20) (Operand.tmp 23), type := 0, pos := "zsortanyfunc.go:331", after := #[{ on := 4, ground := Ground.data }, { on := 7, ground := Ground.data }, { on := 0, ground := Ground.phase }, { on := 1, ground := Ground.phase }, { on := 2, ground := Ground.phase }, { on := 3, ground := Ground.phase }, { on := 4, ground := Ground.phase }, { on := 5, ground := Ground.phase }, { on := 6, ground := Ground.phase }, { on := 7, ground := Ground.phase }, { on := 8, ground := Ground.phase }, { on := 9, ground := Ground.phase }, { on := 10, ground := Ground.phase }, { on := 11, ground := Ground.phase }, { on := 12, ground := Ground.phase }, { on := 13, ground := Ground.phase }, { on := 14, ground := Ground.phase }, { on := 15, ground := Ground.phase }, { on := 16, ground := Ground.phase }, { on := 17, ground := Ground.phase }, { on := 18, ground := Ground.phase }, { on := 19, ground := Ground.phase }, { on := 20, ground := Ground.phase }, { on := 21, ground := Ground.phase }], guard := none }) (v := ?_) rfl (by kernel_rfl) (by kernel_rfl) (by kernel_rfl) (fun _ _ _ h => h) (Or.inl ⟨by rfl, ?_⟩) hHeld ?_
        rotate_left
        · intro w hSw
          try dsimp only at hSw
          go_simp
          try with_reducible rfl
        try simp only [Act.put, List.setIfInBounds_toArray, List.set_cons_zero, List.set_cons_succ]
        refine wpAnyH_ready (rs := [23]) (by kernel_rfl) (by simp) ?_
        refine AllReadyH.cons (o := { dst := none, op := Op.store 3 (Operand.tmp 37) (Operand.tmp 35), type := 0, pos := "zsortanyfunc.go:331", after := #[{ on := 22, ground := Ground.data }, { on := 19, ground := Ground.data }, { on := 21, ground := Ground.chain }, { on := 0, ground := Ground.phase }, { on := 1, ground := Ground.phase }, { on := 2, ground := Ground.phase }, { on := 3, ground := Ground.phase }, { on := 4, ground := Ground.phase }, { on := 5, ground := Ground.phase }, { on := 6, ground := Ground.phase }, { on := 7, ground := Ground.phase }, { on := 8, ground := Ground.phase }, { on := 9, ground := Ground.phase }, { on := 10, ground := Ground.phase }, { on := 11, ground := Ground.phase }, { on := 12, ground := Ground.phase }, { on := 13, ground := Ground.phase }, { on := 14, ground := Ground.phase }, { on := 15, ground := Ground.phase }, { on := 16, ground := Ground.phase }, { on := 17, ground := Ground.phase }, { on := 18, ground := Ground.phase }, { on := 19, ground := Ground.phase }, { on := 20, ground := Ground.phase }, { on := 21, ground := Ground.phase }], guard := none }) rfl (fun K hK => ?_) (AllReadyH.nil)
        go_simp
        rw [← HV2.out]
        refine hK.out _ _ (t2) (fun hHeld2 => ?_)
        clear hK K hHeld; have hHeld := hHeld2; clear hHeld2
        try simp only [Act.put, List.setIfInBounds_toArray, List.set_cons_zero, List.set_cons_succ]
        refine wpAnyH_done (by kernel_rfl) ?_ _
        clear hHeld
        go_wp2_with fail
        go_roundw
        case rel => exact ⟨k + 1, by go_num, by omega, by rw [HV2.out, HV1b.out]; exact HE2.out, by rw [HV2.out, HV1b.out]; exact HO2.out⟩
        case measure => simp [intOf]; omega
    · obtain rfl : k = c := by omega
      have hlt' : ¬ (k : Int) < (k : Int) := by omega
      go_wp2_with fail
      go_end0
      exact ⟨rfl, hE, hO⟩
set_option maxRecDepth 100000 in
set_option maxHeartbeats 6400000 in
theorem rot_any (gO gT gF n : Nat) (far : Nat → Int) (lo m hi : Nat) (a : Fn_) (W : World) (h : En gO gT gF n far a W) (h1 : gO ≠ gT) (h2 : gO ≠ gF) (hn : n ≤ 4096) (hlm : lo < m) (hmh : m < hi) (hhi : hi ≤ n) :
    Calls Try.prog 106 #[.slice (some ⟨gO, 0, none⟩) n n, .int .i64 (lo : Int), .int .i64 (m : Int), .int .i64 (hi : Int), cmpF gT] W (SwP gO gT gF n far (rot a lo m hi) W) := by
  go_enter Try.func106, Try.ntmps106
  go_wp2_with fail
  go_loopw [10, 11] (fun v u wr => ∃ (i j : Nat) (b : Fn_), v = .int .i64 i ∧ u = .int .i64 j ∧ 0 < i ∧ 0 < j ∧ i ≤ m ∧ m + j ≤ hi ∧ En gO gT gF n far b wr ∧ Only gO W wr ∧ rot b (m - i) m (m + j) = rot a lo m hi) (fun v u _ => (intOf v).toNat + (intOf u).toNat)
  case atStart => exact ⟨m - lo, hi - m, a, by rw [show ((m - lo : Nat) : Int) = (m : Int) - (lo : Int) by omega], by rw [show ((hi - m : Nat) : Int) = (hi : Int) - (m : Int) by omega], by omega, by omega, by omega, by omega, h, Only.refl _ _, by rw [show m - (m - lo) = lo by omega, show m + (hi - m) = hi by omega]⟩
  case round =>
    clear h
    obtain ⟨i, j, b, rfl, rfl, hi0, hj0, him, hjm, hE, hO, hR⟩ := hrel
    have HR := Lib.hid hR; clear hR
    rcases Nat.lt_trichotomy i j with g | g | g
    · have q1 : ((i : Int) != (j : Int)) = true := bne_iff_ne.2 (by omega)
      have q2 : (i != j) = true := bne_iff_ne.2 (by omega)
      have q3 : ¬ (j : Int) < (i : Int) := by omega
      go_wp2_with fail
      refine (swr_any gO gT gF n far ((m : Int) - (i : Int)) ((m : Int) + (j : Int) - (i : Int)) (i : Int) (m - i) (m + j - i) i (by omega) (by omega) rfl b _ hE h1 h2 hn (by omega) (by omega)).mono ?_; rintro e w2 ⟨rfl, hE2, hO2⟩
      have HR2 := Lib.hid (show rot (swr b (m - i) (m + j - i) i) (m - i) m (m + (j - i)) = rot a lo m hi by rw [show m + (j - i) = m + j - i by omega, rot_lt b m i j g him]; exact HR.out)
      clear q1 q2
      go_wp2_with fail
      go_roundw
      case rel => exact ⟨i, j - i, _, rfl, by rw [show ((j - i : Nat) : Int) = (j : Int) - (i : Int) by omega], hi0, by omega, him, by omega, hE2, hO.trans hO2, HR2.out⟩
      case measure => simp [intOf]; omega
    · subst g
      have q1 : ((i : Int) != (i : Int)) = false := by simp
      have q2 : (i != i) = false := by simp
      go_wp2_with fail
      refine (swr_any gO gT gF n far ((m : Int) - (i : Int)) (m : Int) (i : Int) (m - i) m i (by omega) rfl rfl b _ hE h1 h2 hn (by omega) (by omega)).mono ?_; rintro e w2 ⟨rfl, hE2, hO2⟩
      rw [rot_eq b m i him, HR.out] at hE2
      go_wp2_with fail
      go_end0
      exact ⟨rfl, hE2, hO.trans hO2⟩
    · have q1 : ((i : Int) != (j : Int)) = true := bne_iff_ne.2 (by omega)
      have q2 : (i != j) = true := bne_iff_ne.2 (by omega)
      have q3 : (j : Int) < (i : Int) := by omega
      go_wp2_with fail
      refine (swr_any gO gT gF n far ((m : Int) - (i : Int)) (m : Int) (j : Int) (m - i) m j (by omega) rfl rfl b _ hE h1 h2 hn (by omega) (by omega)).mono ?_; rintro e w2 ⟨rfl, hE2, hO2⟩
      have HR2 := Lib.hid (show rot (swr b (m - i) m j) (m - (i - j)) m (m + j) = rot a lo m hi by rw [show m - (i - j) = m - i + j by omega, rot_gt b m i j g him]; exact HR.out)
      clear q1 q2
      go_wp2_with fail
      go_roundw
      case rel => exact ⟨i - j, j, _, by rw [show ((i - j : Nat) : Int) = (i : Int) - (j : Int) by omega], rfl, by omega, hj0, by omega, hjm, hE2, hO.trans hO2, HR2.out⟩
      case measure => simp [intOf]; omega
end Go.Proofs.Ytoiccljmdplfgaa.So
