/-
  THE STABLE SORT OF PLACES: the merge: walked.
-/
import Derived.Test.YtoiccljmdplfgaaSo3
import Derived.WalkLawsBesides
import Derived.Deep.CutBlock
namespace Go.Proofs.Ytoiccljmdplfgaa.So
open Go.ChangeShapes Go.WideShapes Go.ChangeAt Go.RowKit
open Go.Proofs.Ytoiccljmdplfgaa
open Go.Proofs.Ytoiccljmdplfgaa.Wd
open Go.Proofs.Ytoiccljmdplfgaa.Nr (Only cmpF)
set_option linter.unusedVariables false
set_option linter.unusedSimpArgs false
set_option maxRecDepth 1000000 in
set_option maxHeartbeats 12800000 in
theorem sym_l (gO gT gF n : Nat) (far : Nat → Int) (lo hi : Nat) (a : Fn_) (W : World) (h : En gO gT gF n far a W) (h1 : gO ≠ gT) (h2 : gO ≠ gF) (hn : n ≤ 4096) (hM : Mrg far lo (lo + 1) hi a) (hhi : hi ≤ n) (hlh : lo + 1 < hi) :
    Calls Try.prog 102 #[.slice (some ⟨gO, 0, none⟩) n n, .int .i64 (lo : Int), .int .i64 ((lo : Int) + 1), .int .i64 (hi : Int), cmpF gT] W (SoP gO gT gF n far lo hi a W) := by
  have q1 : ((lo : Int) + 1 - (lo : Int) == 1) = true := by simp; omega
  have q2 : ((lo : Int) + 1 - (lo : Int)) = 1 := by omega
  have HM := Lib.hid hM; clear hM
  go_enter Try.func102, Try.ntmps102
  go_wp2_with fail
  go_loopw [10, 11] (fun v u wr => ∃ i j : Nat, v = .int .i64 i ∧ u = .int .i64 j ∧ lo + 1 ≤ i ∧ i ≤ j ∧ j ≤ hi ∧ (∀ q, lo + 1 ≤ q → q < i → Lt far (a q) (a lo)) ∧ (∀ q, j ≤ q → q < hi → Lt far (a lo) (a q)) ∧ En gO gT gF n far a wr ∧ Only gO W wr) (fun v u _ => (intOf u).toNat - (intOf v).toNat)
  case atStart => exact ⟨lo + 1, hi, by go_num, rfl, Nat.le_refl _, by omega, Nat.le_refl _, fun q q1 q2 => by omega, fun q q1 q2 => by omega, h, Only.refl _ _⟩
  case round =>
    clear h
    obtain ⟨i, j, rfl, rfl, hi1, hij, hj1, hA, hB, hE, hO⟩ := hrel
    have HA := Lib.hid hA; have HB := Lib.hid hB
    clear hA hB
    by_cases hlt : i < j
    · have hlt' : (i : Int) < (j : Int) := by omega
      obtain ⟨c, hc⟩ : ∃ c : Nat, ((i : Int) + (j : Int)) / 2 = (c : Int) := ⟨(i + j) / 2, by omega⟩
      have hc1 : i ≤ c := by omega
      have hc2 : c < j := by omega
      go_upto_region 5 with fail
      try rw [hc]
      clear hc
      have b1 := hE.b c (by omega); have b2 := hE.b lo (by omega)
      have c1 : wr.cell? ⟨gO, c, none⟩ = some (.int .i64 (a c : Nat)) := hE.o.cell (i := c) (by omega)
      have c2 : wr.cell? ⟨gO, lo, none⟩ = some (.int .i64 (a lo : Nat)) := hE.o.cell (i := lo) (by omega)
      have t1 : (c : Int) < (n : Int) := by omega
      have t2 : (lo : Int) < (n : Int) := by omega
      have hcm := fun q => cmp_any gO gT gF n far a (wr.drewN q) (hE.drewN q) hn (a c) (a lo) b1 b2
      by_cases hf : far (a c) < far (a lo)
      · have f0 := lt0_yes hf
        have HA2 := Lib.hid (fun q (q1 : lo + 1 ≤ q) (q2 : q < c + 1) => bs1_lo HM.out hf q1 (show q ≤ c by omega) (by omega))
        generalize far (a c) = fi at *
        generalize far (a lo) = fk at *
        generalize cmpV fi fk = cv at *
        go_quiet ((go_at_call 75; exact Calls.quiet_of (hcm _)))
        go_wp2_with fail
        go_roundw
        case rel => exact ⟨c + 1, j, by go_num, rfl, by omega, by omega, hj1, HA2.out, HB.out, hE.drewN _, only_drewN hO _⟩
        case measure => simp [intOf]; omega
      · have f0 := lt0_no hf
        have HB2 := Lib.hid (fun q (q1 : c ≤ q) (q2 : q < hi) => bs1_hi HM.out hf (show lo + 1 ≤ c by omega) q1 q2)
        generalize far (a c) = fi at *
        generalize far (a lo) = fk at *
        generalize cmpV fi fk = cv at *
        go_quiet ((go_at_call 75; exact Calls.quiet_of (hcm _)))
        go_wp2_with fail
        go_roundw
        case rel => exact ⟨i, c, rfl, rfl, hi1, hc1, by omega, HA.out, HB2.out, hE.drewN _, only_drewN hO _⟩
        case measure => simp [intOf]; omega
    · obtain rfl : i = j := by omega
      have hlt' : ¬ (i : Int) < (i : Int) := by omega
      obtain ⟨m, rfl⟩ : ∃ m, i = m + 1 := ⟨i - 1, by omega⟩
      obtain ⟨wo, rfl⟩ : ∃ wo : World, wo = wr := ⟨_, rfl⟩
      go_wp2_with fail
      go_loopw [13] (fun v wq => ∃ k : Nat, v = .int .i64 k ∧ lo ≤ k ∧ k ≤ m ∧ En gO gT gF n far (shU a lo k) wq ∧ Only gO W wq) (fun v _ => m - (intOf v).toNat)
      case atStart => exact ⟨lo, rfl, Nat.le_refl _, by omega, by rw [shU_lo]; exact hE, hO⟩
      case round =>
        clear hE hO
        obtain ⟨k, rfl, hk1, hk2, hE, hO⟩ := hrel
        by_cases hlt2 : k < m
        · have hl1 : (k : Int) < ((m + 1 : Nat) : Int) - 1 := by omega
          have hl2 : (k : Int) < (m : Int) := by omega
          have hst := shU_step a lo k hk1
          have e1 : IntKind.i64.wrap ((k : Int) + 1) = (k : Int) + 1 := IntWalk.i64_in _ (by omega)
          have e3 : ((k : Int) + 1).toNat = k + 1 := by omega
          have e5 : (0 : Int) ≤ (k : Int) := by omega
          have e6 : (0 : Int) ≤ (k : Int) + 1 := by omega
          have e7 : (k : Int) < (n : Int) := by omega
          have e8 : (k : Int) + 1 < (n : Int) := by omega
          obtain ⟨V0, hV0⟩ : ∃ V0 : World, V0 = wr := ⟨_, rfl⟩
          have hE0 : En gO gT gF n far (shU a lo k) V0 := by rw [hV0]; exact hE
          have hO0 : Only gO W V0 := by rw [hV0]; exact hO
          have hE2 := hE0.drew.swp_ h1 h2 (show k < n by omega) (show k + 1 < n by omega) (show k ≠ k + 1 by omega)
          rw [hst] at hE2
          obtain ⟨vx, hvx⟩ : ∃ v, shU a lo k k = v := ⟨_, rfl⟩
          obtain ⟨vy, hvy⟩ : ∃ v, shU a lo k (k + 1) = v := ⟨_, rfl⟩
          have hO2 := only_set (only_set hO0.drew k (.int .i64 (vy : Nat))) (k + 1) (.int .i64 (vx : Nat))
          have c1 : V0.drew.cell? ⟨gO, k, none⟩ = some (.int .i64 (vx : Nat)) := by have := hE0.o.cell (i := k) (by omega); rw [hvx] at this; exact this
          have c2 : V0.drew.cell? ⟨gO, k + 1, none⟩ = some (.int .i64 (vy : Nat)) := by have := hE0.o.cell (i := k + 1) (by omega); rw [hvy] at this; exact this
          rw [hvx, hvy] at hE2
          have HE2 := Lib.hid hE2; have HO2 := Lib.hid hO2
          have hxy : (⟨gO, k + 1, none⟩ : Addr) ≠ ⟨gO, k, none⟩ := fun e => by injection e with _ e _; omega
          rw [← hV0]
          clear hV0 hE2 hO2 hE hO hO0 hst hvx hvy
          go_upto_region 11 with fail
          obtain ⟨V1, hV1⟩ : ∃ V1 : World, V1 = V0.drew.setCell ⟨gO, k, none⟩ (.int .i64 (vy : Nat)) := ⟨_, rfl⟩
          obtain ⟨V2, hV2⟩ : ∃ V2 : World, V2 = V1.setCell ⟨gO, k + 1, none⟩ (.int .i64 (vx : Nat)) := ⟨_, rfl⟩
          have hV1' : V1 = (V0.setCell ⟨gO, k, none⟩ (.int .i64 (vy : Nat))).drew := by rw [hV1, World.setCell_drew]
          have f1 : V0.drew.frozen? ⟨gO, k, none⟩ = false := hE0.o.frozen (k)
          have c2' : V1.cell? ⟨gO, k + 1, none⟩ = some (.int .i64 (vy : Nat)) := by rw [hV1, World.cell?_setCell_other _ _ _ _ (Ne.symm hxy)]; exact c2
          have f2 : V1.frozen? ⟨gO, k + 1, none⟩ = false := by rw [hV1, World.frozen?_setCell]; exact hE0.o.frozen (k + 1)
          have t0 : V0.drew.cell? ⟨gT, 0, none⟩ = some (.slice (some ⟨gF, 0, none⟩) n n) := hE0.t.cell 0
          have t1 : V1.cell? ⟨gT, 0, none⟩ = some (.slice (some ⟨gF, 0, none⟩) n n) := by rw [hV1, World.cell?_setCell_other _ _ _ _ (fun e => h1 (congrArg Addr.block e))]; exact t0
          have t2 : V2.cell? ⟨gT, 0, none⟩ = some (.slice (some ⟨gF, 0, none⟩) n n) := by rw [hV2, World.cell?_setCell_other _ _ _ _ (fun e => h1 (congrArg Addr.block e))]; exact t1
          have HV1 := Lib.hid hV1'; have HV1b := Lib.hid hV1; have HV2 := Lib.hid hV2; clear hV1' hV1 hV2
          refine wp_region_held_drew (S := fun w' => w'.cell? ⟨gT, 0, none⟩ = some (.slice (some ⟨gF, 0, none⟩) n n)) (by kernel_rfl) (t0) (fun hHeld => ?_)
          refine wpAnyH_take (i := 0) (oi := { dst := some 61, op := Op.move (Operand.tmp 0), type := 69, pos := "zsortanyfunc.go:398", after := #[], guard := none }) (v := ?_) rfl (by kernel_rfl) (by kernel_rfl) (by kernel_rfl) (fun _ _ _ h => h) (Or.inl ⟨by rfl, ?_⟩) hHeld ?_
          rotate_left
          · intro w hSw
            try dsimp only at hSw
            go_simp
            try with_reducible rfl
          try simp only [Act.put, List.setIfInBounds_toArray, List.set_cons_zero, List.set_cons_succ]
          refine wpAnyH_take (i := 1) (oi := { dst := some 62, op := Op.move (Operand.tmp 13), type := 3, pos := "zsortanyfunc.go:398", after := #[], guard := none }) (v := ?_) rfl (by kernel_rfl) (by kernel_rfl) (by kernel_rfl) (fun _ _ _ h => h) (Or.inl ⟨by rfl, ?_⟩) hHeld ?_
          rotate_left
          · intro w hSw
            try dsimp only at hSw
            go_simp
            try with_reducible rfl
          try simp only [Act.put, List.setIfInBounds_toArray, List.set_cons_zero, List.set_cons_succ]
          refine wpAnyH_take (i := 2) (oi := { dst := some 63, op := Op.move (Operand.tmp 0), type := 69, pos := "zsortanyfunc.go:398", after := #[{ on := 15, ground := Ground.gcOnly Departure.lateStores }], guard := none }) (v := ?_) rfl (by kernel_rfl) (by kernel_rfl) (by kernel_rfl) (fun _ _ _ h => h) (Or.inl ⟨by rfl, ?_⟩) hHeld ?_
          rotate_left
          · intro w hSw
            try dsimp only at hSw
            go_simp
            try with_reducible rfl
          try simp only [Act.put, List.setIfInBounds_toArray, List.set_cons_zero, List.set_cons_succ]
          refine wpAnyH_take (i := 3) (oi := { dst := some 64, op := Op.move (Operand.tmp 13), type := 3, pos := "zsortanyfunc.go:398", after := #[{ on := 15, ground := Ground.gcOnly Departure.lateStores }], guard := none }) (v := ?_) rfl (by kernel_rfl) (by kernel_rfl) (by kernel_rfl) (fun _ _ _ h => h) (Or.inl ⟨by rfl, ?_⟩) hHeld ?_
          rotate_left
          · intro w hSw
            try dsimp only at hSw
            go_simp
            try with_reducible rfl
          try simp only [Act.put, List.setIfInBounds_toArray, List.set_cons_zero, List.set_cons_succ]
          refine wpAnyH_take (i := 4) (oi := { dst := some 65, op := Op.binOp BinOp.add 3 (Operand.tmp 64) (Operand.const (Value.int IntKind.i64 1)) 3, type := 3, pos := "zsortanyfunc.go:398", after := #[{ on := 3, ground := Ground.data }, { on := 15, ground := Ground.gcOnly Departure.lateStores }], guard := none }) (v := ?_) rfl (by kernel_rfl) (by kernel_rfl) (by kernel_rfl) (fun _ _ _ h => h) (Or.inl ⟨by rfl, ?_⟩) hHeld ?_
          rotate_left
          · intro w hSw
            try dsimp only at hSw
            go_simp
            try with_reducible rfl
          try simp only [Act.put, List.setIfInBounds_toArray, List.set_cons_zero, List.set_cons_succ]
          refine wpAnyH_take (i := 5) (oi := { dst := some 66, op := Op.move (Operand.tmp 0), type := 69, pos := "zsortanyfunc.go:398", after := #[], guard := none }) (v := ?_) rfl (by kernel_rfl) (by kernel_rfl) (by kernel_rfl) (fun _ _ _ h => h) (Or.inl ⟨by rfl, ?_⟩) hHeld ?_
          rotate_left
          · intro w hSw
            try dsimp only at hSw
            go_simp
            try with_reducible rfl
          try simp only [Act.put, List.setIfInBounds_toArray, List.set_cons_zero, List.set_cons_succ]
          refine wpAnyH_take (i := 6) (oi := { dst := some 67, op := Op.move (Operand.tmp 13), type := 3, pos := "zsortanyfunc.go:398", after := #[], guard := none }) (v := ?_) rfl (by kernel_rfl) (by kernel_rfl) (by kernel_rfl) (fun _ _ _ h => h) (Or.inl ⟨by rfl, ?_⟩) hHeld ?_
          rotate_left
          · intro w hSw
            try dsimp only at hSw
            go_simp
            try with_reducible rfl
          try simp only [Act.put, List.setIfInBounds_toArray, List.set_cons_zero, List.set_cons_succ]
          refine wpAnyH_take (i := 7) (oi := { dst := some 68, op := Op.binOp BinOp.add 3 (Operand.tmp 67) (Operand.const (Value.int IntKind.i64 1)) 3, type := 3, pos := "zsortanyfunc.go:398", after := #[{ on := 6, ground := Ground.data }], guard := none }) (v := ?_) rfl (by kernel_rfl) (by kernel_rfl) (by kernel_rfl) (fun _ _ _ h => h) (Or.inl ⟨by rfl, ?_⟩) hHeld ?_
          rotate_left
          · intro w hSw
            try dsimp only at hSw
            go_simp
            try with_reducible rfl
          try simp only [Act.put, List.setIfInBounds_toArray, List.set_cons_zero, List.set_cons_succ]
          refine wpAnyH_take (i := 8) (oi := { dst := some 69, op := Op.indexAddr 69 (Operand.tmp 66) (Operand.tmp 68), type := 0, pos := "zsortanyfunc.go:398", after := #[{ on := 5, ground := Ground.data }, { on := 7, ground := Ground.data }], guard := none }) (v := ?_) rfl (by kernel_rfl) (by kernel_rfl) (by kernel_rfl) (fun _ _ _ h => h) (Or.inl ⟨by rfl, ?_⟩) hHeld ?_
          rotate_left
          · intro w hSw
            try dsimp only at hSw
            go_simp
            try with_reducible rfl
          try simp only [Act.put, List.setIfInBounds_toArray, List.set_cons_zero, List.set_cons_succ]
          refine wpAnyH_take (i := 10) (oi := { dst := some 71, op := Op.move (Operand.tmp 0), type := 69, pos := "zsortanyfunc.go:398", after := #[], guard := none }) (v := ?_) rfl (by kernel_rfl) (by kernel_rfl) (by kernel_rfl) (fun _ _ _ h => h) (Or.inl ⟨by rfl, ?_⟩) hHeld ?_
          rotate_left
          · intro w hSw
            try dsimp only at hSw
            go_simp
            try with_reducible rfl
          try simp only [Act.put, List.setIfInBounds_toArray, List.set_cons_zero, List.set_cons_succ]
          refine wpAnyH_take (i := 11) (oi := { dst := some 72, op := Op.move (Operand.tmp 13), type := 3, pos := "zsortanyfunc.go:398", after := #[], guard := none }) (v := ?_) rfl (by kernel_rfl) (by kernel_rfl) (by kernel_rfl) (fun _ _ _ h => h) (Or.inl ⟨by rfl, ?_⟩) hHeld ?_
          rotate_left
          · intro w hSw
            try dsimp only at hSw
            go_simp
            try with_reducible rfl
          try simp only [Act.put, List.setIfInBounds_toArray, List.set_cons_zero, List.set_cons_succ]
          refine wpAnyH_take (i := 12) (oi := { dst := some 73, op := Op.indexAddr 69 (Operand.tmp 71) (Operand.tmp 72), type := 0, pos := "zsortanyfunc.go:398", after := #[{ on := 10, ground := Ground.data }, { on := 11, ground := Ground.data }], guard := none }) (v := ?_) rfl (by kernel_rfl) (by kernel_rfl) (by kernel_rfl) (fun _ _ _ h => h) (Or.inl ⟨by rfl, ?_⟩) hHeld ?_
          rotate_left
          · intro w hSw
            try dsimp only at hSw
            go_simp
            try with_reducible rfl
          try simp only [Act.put, List.setIfInBounds_toArray, List.set_cons_zero, List.set_cons_succ]
          refine wpAnyH_ready (rs := [9, 13]) (by kernel_rfl) (by simp) ?_
          refine AllReadyH.cons (o := { dst := some 70, op := Op.load 3 (Operand.tmp 69), type := 3, pos := "zsortanyfunc.go:398", after := #[{ on := 8, ground := Ground.data }], guard := none }) rfl (fun K hK => ?_) (AllReadyH.cons (o := { dst := some 74, op := Op.load 3 (Operand.tmp 73), type := 3, pos := "zsortanyfunc.go:398", after := #[{ on := 12, ground := Ground.data }], guard := none }) rfl (fun K hK => ?_) (AllReadyH.nil))
          · skip
            go_simp
            refine hK.out _ _ (t0) (fun hHeld2 => ?_)
            clear hK K hHeld; have hHeld := hHeld2; clear hHeld2
            try simp only [Act.put, List.setIfInBounds_toArray, List.set_cons_zero, List.set_cons_succ]
            refine wpAnyH_ready (rs := [13]) (by kernel_rfl) (by simp) ?_
            refine AllReadyH.cons (o := { dst := some 74, op := Op.load 3 (Operand.tmp 73), type := 3, pos := "zsortanyfunc.go:398", after := #[{ on := 12, ground := Ground.data }], guard := none }) rfl (fun K hK => ?_) (AllReadyH.nil)
            go_simp
            refine hK.out _ _ (t0) (fun hHeld2 => ?_)
            clear hK K hHeld; have hHeld := hHeld2; clear hHeld2
            try simp only [Act.put, List.setIfInBounds_toArray, List.set_cons_zero, List.set_cons_succ]
            refine wpAnyH_take (i := 14) (oi := { dst := some 75, op := Op.indexAddr 69 (Operand.tmp 61) (Operand.tmp 62), type := 0, pos := "zsortanyfunc.go:398", after := #[{ on := 0, ground := Ground.data }, { on := 1, ground := Ground.data }, { on := 0, ground := Ground.phase }, { on := 1, ground := Ground.phase }, { on := 2, ground := Ground.textOnly Departure.lateStores }, { on := 3, ground := Ground.textOnly Departure.lateStores }, { on := 4, ground := Ground.textOnly Departure.lateStores }, { on := 5, ground := Ground.phase }, { on := 6, ground := Ground.phase }, { on := 7, ground := Ground.phase }, { on := 8, ground := Ground.phase }, { on := 9, ground := Ground.phase }, { on := 10, ground := Ground.textOnly Departure.lateStores }, { on := 11, ground := Ground.textOnly Departure.lateStores }, { on := 12, ground := Ground.textOnly Departure.lateStoresUnsure }, { on := 13, ground := Ground.phase }], guard := none }) (v := ?_) rfl (by kernel_rfl) (by kernel_rfl) (by kernel_rfl) (fun _ _ _ h => h) (Or.inl ⟨by rfl, ?_⟩) hHeld ?_
            rotate_left
            · intro w hSw
              try dsimp only at hSw
              go_simp
              try with_reducible rfl
            try simp only [Act.put, List.setIfInBounds_toArray, List.set_cons_zero, List.set_cons_succ]
            refine wpAnyH_ready (rs := [15]) (by kernel_rfl) (by simp) ?_
            refine AllReadyH.cons (o := { dst := none, op := Op.store 3 (Operand.tmp 75) (Operand.tmp 70), type := 0, pos := "zsortanyfunc.go:398", after := #[{ on := 14, ground := Ground.data }, { on := 9, ground := Ground.data }, { on := 0, ground := Ground.phase }, { on := 1, ground := Ground.phase }, { on := 2, ground := Ground.textOnly Departure.lateStores }, { on := 3, ground := Ground.textOnly Departure.lateStores }, { on := 4, ground := Ground.textOnly Departure.lateStores }, { on := 5, ground := Ground.phase }, { on := 6, ground := Ground.phase }, { on := 7, ground := Ground.phase }, { on := 8, ground := Ground.phase }, { on := 9, ground := Ground.phase }, { on := 10, ground := Ground.textOnly Departure.lateStores }, { on := 11, ground := Ground.textOnly Departure.lateStores }, { on := 12, ground := Ground.textOnly Departure.lateStoresUnsure }, { on := 13, ground := Ground.phase }], guard := none }) rfl (fun K hK => ?_) (AllReadyH.nil)
            go_simp
            rw [← HV1.out]
            refine hK.out _ _ (t1) (fun hHeld2 => ?_)
            clear hK K hHeld; have hHeld := hHeld2; clear hHeld2
            try simp only [Act.put, List.setIfInBounds_toArray, List.set_cons_zero, List.set_cons_succ]
            refine wpAnyH_take (i := 16) (oi := { dst := some 76, op := Op.indexAddr 69 (Operand.tmp 63) (Operand.tmp 65), type := 0, pos := "zsortanyfunc.go:398", after := #[{ on := 2, ground := Ground.data }, { on := 4, ground := Ground.data }, { on := 0, ground := Ground.phase }, { on := 1, ground := Ground.phase }, { on := 2, ground := Ground.phase }, { on := 3, ground := Ground.phase }, { on := 4, ground := Ground.phase }, { on := 5, ground := Ground.phase }, { on := 6, ground := Ground.phase }, { on := 7, ground := Ground.phase }, { on := 8, ground := Ground.phase }, { on := 9, ground := Ground.phase }, { on := 10, ground := Ground.phase }, { on := 11, ground := Ground.phase }, { on := 12, ground := Ground.phase }, { on := 13, ground := Ground.phase }, { on := 14, ground := Ground.phase }, { on := 15, ground := Ground.phase }], guard := none }) (v := ?_) rfl (by kernel_rfl) (by kernel_rfl) (by kernel_rfl) (fun _ _ _ h => h) (Or.inl ⟨by rfl, ?_⟩) hHeld ?_
            rotate_left
            · intro w hSw
              try dsimp only at hSw
              go_simp
              try with_reducible rfl
            try simp only [Act.put, List.setIfInBounds_toArray, List.set_cons_zero, List.set_cons_succ]
            refine wpAnyH_ready (rs := [17]) (by kernel_rfl) (by simp) ?_
            refine AllReadyH.cons (o := { dst := none, op := Op.store 3 (Operand.tmp 76) (Operand.tmp 74), type := 0, pos := "zsortanyfunc.go:398", after := #[{ on := 16, ground := Ground.data }, { on := 13, ground := Ground.data }, { on := 15, ground := Ground.chain }, { on := 0, ground := Ground.phase }, { on := 1, ground := Ground.phase }, { on := 2, ground := Ground.phase }, { on := 3, ground := Ground.phase }, { on := 4, ground := Ground.phase }, { on := 5, ground := Ground.phase }, { on := 6, ground := Ground.phase }, { on := 7, ground := Ground.phase }, { on := 8, ground := Ground.phase }, { on := 9, ground := Ground.phase }, { on := 10, ground := Ground.phase }, { on := 11, ground := Ground.phase }, { on := 12, ground := Ground.phase }, { on := 13, ground := Ground.phase }, { on := 14, ground := Ground.phase }, { on := 15, ground := Ground.phase }], guard := none }) rfl (fun K hK => ?_) (AllReadyH.nil)
            go_simp
            rw [← HV2.out]
            refine hK.out _ _ (t2) (fun hHeld2 => ?_)
            clear hK K hHeld; have hHeld := hHeld2; clear hHeld2
            try simp only [Act.put, List.setIfInBounds_toArray, List.set_cons_zero, List.set_cons_succ]
            refine wpAnyH_done (by kernel_rfl) ?_ _
            clear hHeld
            go_wp2_with fail
            go_roundw
            case rel => exact ⟨k + 1, by go_num, by omega, by omega, by rw [HV2.out, HV1b.out]; exact HE2.out, by rw [HV2.out, HV1b.out]; exact HO2.out⟩
            case measure => simp [intOf]; omega
          · skip
            go_simp
            refine hK.out _ _ (t0) (fun hHeld2 => ?_)
            clear hK K hHeld; have hHeld := hHeld2; clear hHeld2
            try simp only [Act.put, List.setIfInBounds_toArray, List.set_cons_zero, List.set_cons_succ]
            refine wpAnyH_ready (rs := [9]) (by kernel_rfl) (by simp) ?_
            refine AllReadyH.cons (o := { dst := some 70, op := Op.load 3 (Operand.tmp 69), type := 3, pos := "zsortanyfunc.go:398", after := #[{ on := 8, ground := Ground.data }], guard := none }) rfl (fun K hK => ?_) (AllReadyH.nil)
            go_simp
            refine hK.out _ _ (t0) (fun hHeld2 => ?_)
            clear hK K hHeld; have hHeld := hHeld2; clear hHeld2
            try simp only [Act.put, List.setIfInBounds_toArray, List.set_cons_zero, List.set_cons_succ]
            refine wpAnyH_take (i := 14) (oi := { dst := some 75, op := Op.indexAddr 69 (Operand.tmp 61) (Operand.tmp 62), type := 0, pos := "zsortanyfunc.go:398", after := #[{ on := 0, ground := Ground.data }, { on := 1, ground := Ground.data }, { on := 0, ground := Ground.phase }, { on := 1, ground := Ground.phase }, { on := 2, ground := Ground.textOnly Departure.lateStores }, { on := 3, ground := Ground.textOnly Departure.lateStores }, { on := 4, ground := Ground.textOnly Departure.lateStores }, { on := 5, ground := Ground.phase }, { on := 6, ground := Ground.phase }, { on := 7, ground := Ground.phase }, { on := 8, ground := Ground.phase }, { on := 9, ground := Ground.phase }, { on := 10, ground := Ground.textOnly Departure.lateStores }, { on := 11, ground := Ground.textOnly Departure.lateStores }, { on := 12, ground := Ground.textOnly Departure.lateStoresUnsure }, { on := 13, ground := Ground.phase }], guard := none }) (v := ?_) rfl (by kernel_rfl) (by kernel_rfl) (by kernel_rfl) (fun _ _ _ h => h) (Or.inl ⟨by rfl, ?_⟩) hHeld ?_
            rotate_left
            · intro w hSw
              try dsimp only at hSw
              go_simp
              try with_reducible rfl
            try simp only [Act.put, List.setIfInBounds_toArray, List.set_cons_zero, List.set_cons_succ]
            refine wpAnyH_ready (rs := [15]) (by kernel_rfl) (by simp) ?_
            refine AllReadyH.cons (o := { dst := none, op := Op.store 3 (Operand.tmp 75) (Operand.tmp 70), type := 0, pos := "zsortanyfunc.go:398", after := #[{ on := 14, ground := Ground.data }, { on := 9, ground := Ground.data }, { on := 0, ground := Ground.phase }, { on := 1, ground := Ground.phase }, { on := 2, ground := Ground.textOnly Departure.lateStores }, { on := 3, ground := Ground.textOnly Departure.lateStores }, { on := 4, ground := Ground.textOnly Departure.lateStores }, { on := 5, ground := Ground.phase }, { on := 6, ground := Ground.phase }, { on := 7, ground := Ground.phase }, { on := 8, ground := Ground.phase }, { on := 9, ground := Ground.phase }, { on := 10, ground := Ground.textOnly Departure.lateStores }, { on := 11, ground := Ground.textOnly Departure.lateStores }, { on := 12, ground := Ground.textOnly Departure.lateStoresUnsure }, { on := 13, ground := Ground.phase }], guard := none }) rfl (fun K hK => ?_) (AllReadyH.nil)
            go_simp
            rw [← HV1.out]
            refine hK.out _ _ (t1) (fun hHeld2 => ?_)
            clear hK K hHeld; have hHeld := hHeld2; clear hHeld2
            try simp only [Act.put, List.setIfInBounds_toArray, List.set_cons_zero, List.set_cons_succ]
            refine wpAnyH_take (i := 16) (oi := { dst := some 76, op := Op.indexAddr 69 (Operand.tmp 63) (Operand.tmp 65), type := 0, pos := "zsortanyfunc.go:398", after := #[{ on := 2, ground := Ground.data }, { on := 4, ground := Ground.data }, { on := 0, ground := Ground.phase }, { on := 1, ground := Ground.phase }, { on := 2, ground := Ground.phase }, { on := 3, ground := Ground.phase }, { on := 4, ground := Ground.phase }, { on := 5, ground := Ground.phase }, { on := 6, ground := Ground.phase }, { on := 7, ground := Ground.phase }, { on := 8, ground := Ground.phase }, { on := 9, ground := Ground.phase }, { on := 10, ground := Ground.phase }, { on := 11, ground := Ground.phase }, { on := 12, ground := Ground.phase }, { on := 13, ground := Ground.phase }, { on := 14, ground := Ground.phase }, { on := 15, ground := Ground.phase }], guard := none }) (v := ?_) rfl (by kernel_rfl) (by kernel_rfl) (by kernel_rfl) (fun _ _ _ h => h) (Or.inl ⟨by rfl, ?_⟩) hHeld ?_
            rotate_left
            · intro w hSw
              try dsimp only at hSw
              go_simp
              try with_reducible rfl
            try simp only [Act.put, List.setIfInBounds_toArray, List.set_cons_zero, List.set_cons_succ]
            refine wpAnyH_ready (rs := [17]) (by kernel_rfl) (by simp) ?_
            refine AllReadyH.cons (o := { dst := none, op := Op.store 3 (Operand.tmp 76) (Operand.tmp 74), type := 0, pos := "zsortanyfunc.go:398", after := #[{ on := 16, ground := Ground.data }, { on := 13, ground := Ground.data }, { on := 15, ground := Ground.chain }, { on := 0, ground := Ground.phase }, { on := 1, ground := Ground.phase }, { on := 2, ground := Ground.phase }, { on := 3, ground := Ground.phase }, { on := 4, ground := Ground.phase }, { on := 5, ground := Ground.phase }, { on := 6, ground := Ground.phase }, { on := 7, ground := Ground.phase }, { on := 8, ground := Ground.phase }, { on := 9, ground := Ground.phase }, { on := 10, ground := Ground.phase }, { on := 11, ground := Ground.phase }, { on := 12, ground := Ground.phase }, { on := 13, ground := Ground.phase }, { on := 14, ground := Ground.phase }, { on := 15, ground := Ground.phase }], guard := none }) rfl (fun K hK => ?_) (AllReadyH.nil)
            go_simp
            rw [← HV2.out]
            refine hK.out _ _ (t2) (fun hHeld2 => ?_)
            clear hK K hHeld; have hHeld := hHeld2; clear hHeld2
            try simp only [Act.put, List.setIfInBounds_toArray, List.set_cons_zero, List.set_cons_succ]
            refine wpAnyH_done (by kernel_rfl) ?_ _
            clear hHeld
            go_wp2_with fail
            go_roundw
            case rel => exact ⟨k + 1, by go_num, by omega, by omega, by rw [HV2.out, HV1b.out]; exact HE2.out, by rw [HV2.out, HV1b.out]; exact HO2.out⟩
            case measure => simp [intOf]; omega
        · obtain rfl : k = m := by omega
          have hl1 : ¬ (k : Int) < ((k + 1 : Nat) : Int) - 1 := by omega
          have hl2 : ¬ (k : Int) < (k : Int) := by omega
          have HR := Lib.hid (show SoP gO gT gF n far lo hi a W (.returned (.tuple #[])) wr from ⟨rfl, shU a lo k, hE, hO, shU_pm a (k - lo) k (by omega) (by omega), shU_sd HM.out.r hk1 (by omega) (fun q q1 q2 => HA.out q q1 (by omega)) (fun q q1 q2 => HB.out q (by omega) q2)⟩)
          go_wp2_with fail
          refine bodyPost_ret (results_none rfl _ _ _) rfl ?_
          exact HR.out
set_option maxRecDepth 1000000 in
set_option maxHeartbeats 12800000 in
theorem sym_r (gO gT gF n : Nat) (far : Nat → Int) (lo m : Nat) (a : Fn_) (W : World) (h : En gO gT gF n far a W) (h1 : gO ≠ gT) (h2 : gO ≠ gF) (hn : n ≤ 4096) (hM : Mrg far lo m (m + 1) a) (hhi : m + 1 ≤ n) (hlm : lo + 1 < m) :
    Calls Try.prog 102 #[.slice (some ⟨gO, 0, none⟩) n n, .int .i64 (lo : Int), .int .i64 (m : Int), .int .i64 ((m : Int) + 1), cmpF gT] W (SoP gO gT gF n far lo (m + 1) a W) := by
  have q0 : ((m : Int) - (lo : Int) == 1) = false := beq_eq_false_iff_ne.2 (by omega)
  have q2 : ((m : Int) + 1 - (m : Int)) = 1 := by omega
  have HM := Lib.hid hM; clear hM
  go_enter Try.func102, Try.ntmps102
  go_wp2_with fail
  clear q0 q2
  go_loopw [14, 15] (fun v u wr => ∃ i j : Nat, v = .int .i64 i ∧ u = .int .i64 j ∧ lo ≤ i ∧ i ≤ j ∧ j ≤ m ∧ (∀ q, lo ≤ q → q < i → Lt far (a q) (a m)) ∧ (∀ q, j ≤ q → q < m → Lt far (a m) (a q)) ∧ En gO gT gF n far a wr ∧ Only gO W wr) (fun v u _ => (intOf u).toNat - (intOf v).toNat)
  case atStart => exact ⟨lo, m, rfl, rfl, Nat.le_refl _, by omega, Nat.le_refl _, fun q q1 q2 => by omega, fun q q1 q2 => by omega, h, Only.refl _ _⟩
  case round =>
    clear h
    obtain ⟨i, j, rfl, rfl, hi1, hij, hj1, hA, hB, hE, hO⟩ := hrel
    have HA := Lib.hid hA; have HB := Lib.hid hB
    clear hA hB
    by_cases hlt : i < j
    · have hlt' : (i : Int) < (j : Int) := by omega
      obtain ⟨c, hc⟩ : ∃ c : Nat, ((i : Int) + (j : Int)) / 2 = (c : Int) := ⟨(i + j) / 2, by omega⟩
      have hc1 : i ≤ c := by omega
      have hc2 : c < j := by omega
      go_upto_region 17 with fail
      try rw [hc]
      clear hc
      have b1 := hE.b m (by omega); have b2 := hE.b c (by omega)
      have c1 : wr.cell? ⟨gO, m, none⟩ = some (.int .i64 (a m : Nat)) := hE.o.cell (i := m) (by omega)
      have c2 : wr.cell? ⟨gO, c, none⟩ = some (.int .i64 (a c : Nat)) := hE.o.cell (i := c) (by omega)
      have t1 : (c : Int) < (n : Int) := by omega
      have t2 : (m : Int) < (n : Int) := by omega
      have hcm := fun q => cmp_any gO gT gF n far a (wr.drewN q) (hE.drewN q) hn (a m) (a c) b1 b2
      by_cases hf : far (a m) < far (a c)
      · have f0 := lt0_yes hf
        have HB2 := Lib.hid (fun q (q1 : c ≤ q) (q2 : q < m) => bs2_hi HM.out hf (show lo ≤ c by omega) q1 q2)
        generalize far (a m) = fi at *
        generalize far (a c) = fk at *
        generalize cmpV fi fk = cv at *
        go_quiet ((go_at_call 75; exact Calls.quiet_of (hcm _)))
        go_wp2_with fail
        go_roundw
        case rel => exact ⟨i, c, rfl, rfl, hi1, hc1, by omega, HA.out, HB2.out, hE.drewN _, only_drewN hO _⟩
        case measure => simp [intOf]; omega
      · have f0 := lt0_no hf
        have HA2 := Lib.hid (fun q (q1 : lo ≤ q) (q2 : q < c + 1) => bs2_lo HM.out hf q1 (show q ≤ c by omega) (by omega))
        generalize far (a m) = fi at *
        generalize far (a c) = fk at *
        generalize cmpV fi fk = cv at *
        go_quiet ((go_at_call 75; exact Calls.quiet_of (hcm _)))
        go_wp2_with fail
        go_roundw
        case rel => exact ⟨c + 1, j, by go_num, rfl, by omega, by omega, hj1, HA2.out, HB.out, hE.drewN _, only_drewN hO _⟩
        case measure => simp [intOf]; omega
    · obtain rfl : i = j := by omega
      have hlt' : ¬ (i : Int) < (i : Int) := by omega
      obtain ⟨wo, rfl⟩ : ∃ wo : World, wo = wr := ⟨_, rfl⟩
      go_wp2_with fail
      go_loopw [17] (fun v wq => ∃ k : Nat, v = .int .i64 k ∧ i ≤ k ∧ k ≤ m ∧ En gO gT gF n far (shD a m k) wq ∧ Only gO W wq) (fun v _ => (intOf v).toNat)
      case atStart => exact ⟨m, rfl, hj1, Nat.le_refl _, by rw [shD_m]; exact hE, hO⟩
      case round =>
        clear hE hO
        obtain ⟨k, rfl, hk1, hk2, hE, hO⟩ := hrel
        by_cases hlt2 : i < k
        · obtain ⟨k, rfl⟩ : ∃ k', k = k' + 1 := ⟨k - 1, by omega⟩
          have hl1 : (i : Int) < ((k + 1 : Nat) : Int) := by omega
          have hl2 : (i : Int) < (k : Int) + 1 := by omega
          have hst := shD_step a m k (by omega)
          have e0 : ((k + 1 : Nat) : Int) = (k : Int) + 1 := by omega
          have e1 : IntKind.i64.wrap (k : Int) = (k : Int) := IntWalk.i64_in _ (by omega)
          have e5 : (0 : Int) ≤ (k : Int) := by omega
          have e6 : (0 : Int) ≤ (k : Int) + 1 := by omega
          have e7 : (k : Int) < (n : Int) := by omega
          have e8 : (k : Int) + 1 < (n : Int) := by omega
          obtain ⟨V0, hV0⟩ : ∃ V0 : World, V0 = wr := ⟨_, rfl⟩
          have hE0 : En gO gT gF n far (shD a m (k + 1)) V0 := by rw [hV0]; exact hE
          have hO0 : Only gO W V0 := by rw [hV0]; exact hO
          have hE2 := hE0.drew.swp_ h1 h2 (show k + 1 < n by omega) (show k < n by omega) (show k + 1 ≠ k by omega)
          rw [hst] at hE2
          obtain ⟨vx, hvx⟩ : ∃ v, shD a m (k + 1) (k + 1) = v := ⟨_, rfl⟩
          obtain ⟨vy, hvy⟩ : ∃ v, shD a m (k + 1) k = v := ⟨_, rfl⟩
          have hO2 := only_set (only_set hO0.drew (k + 1) (.int .i64 (vy : Nat))) k (.int .i64 (vx : Nat))
          have c1 : V0.drew.cell? ⟨gO, k + 1, none⟩ = some (.int .i64 (vx : Nat)) := by have := hE0.o.cell (i := k + 1) (by omega); rw [hvx] at this; exact this
          have c2 : V0.drew.cell? ⟨gO, k, none⟩ = some (.int .i64 (vy : Nat)) := by have := hE0.o.cell (i := k) (by omega); rw [hvy] at this; exact this
          rw [hvx, hvy] at hE2
          have HE2 := Lib.hid hE2; have HO2 := Lib.hid hO2
          have hxy : (⟨gO, k, none⟩ : Addr) ≠ ⟨gO, k + 1, none⟩ := fun e => by injection e with _ e _; omega
          rw [← hV0, e0]
          clear hV0 hE2 hO2 hE hO hO0 hst hvx hvy e0 hl1
          go_upto_region 23 with fail
          obtain ⟨V1, hV1⟩ : ∃ V1 : World, V1 = V0.drew.setCell ⟨gO, k + 1, none⟩ (.int .i64 (vy : Nat)) := ⟨_, rfl⟩
          obtain ⟨V2, hV2⟩ : ∃ V2 : World, V2 = V1.setCell ⟨gO, k, none⟩ (.int .i64 (vx : Nat)) := ⟨_, rfl⟩
          have hV1' : V1 = (V0.setCell ⟨gO, k + 1, none⟩ (.int .i64 (vy : Nat))).drew := by rw [hV1, World.setCell_drew]
          have f1 : V0.drew.frozen? ⟨gO, k + 1, none⟩ = false := hE0.o.frozen (k + 1)
          have c2' : V1.cell? ⟨gO, k, none⟩ = some (.int .i64 (vy : Nat)) := by rw [hV1, World.cell?_setCell_other _ _ _ _ (Ne.symm hxy)]; exact c2
          have f2 : V1.frozen? ⟨gO, k, none⟩ = false := by rw [hV1, World.frozen?_setCell]; exact hE0.o.frozen (k)
          have t0 : V0.drew.cell? ⟨gT, 0, none⟩ = some (.slice (some ⟨gF, 0, none⟩) n n) := hE0.t.cell 0
          have t1 : V1.cell? ⟨gT, 0, none⟩ = some (.slice (some ⟨gF, 0, none⟩) n n) := by rw [hV1, World.cell?_setCell_other _ _ _ _ (fun e => h1 (congrArg Addr.block e))]; exact t0
          have t2 : V2.cell? ⟨gT, 0, none⟩ = some (.slice (some ⟨gF, 0, none⟩) n n) := by rw [hV2, World.cell?_setCell_other _ _ _ _ (fun e => h1 (congrArg Addr.block e))]; exact t1
          have HV1 := Lib.hid hV1'; have HV1b := Lib.hid hV1; have HV2 := Lib.hid hV2; clear hV1' hV1 hV2
          refine wp_region_held_drew (S := fun w' => w'.cell? ⟨gT, 0, none⟩ = some (.slice (some ⟨gF, 0, none⟩) n n)) (by kernel_rfl) (t0) (fun hHeld => ?_)
          refine wpAnyH_take (i := 0) (oi := { dst := some 113, op := Op.move (Operand.tmp 0), type := 69, pos := "zsortanyfunc.go:422", after := #[], guard := none }) (v := ?_) rfl (by kernel_rfl) (by kernel_rfl) (by kernel_rfl) (fun _ _ _ h => h) (Or.inl ⟨by rfl, ?_⟩) hHeld ?_
          rotate_left
          · intro w hSw
            try dsimp only at hSw
            go_simp
            try with_reducible rfl
          try simp only [Act.put, List.setIfInBounds_toArray, List.set_cons_zero, List.set_cons_succ]
          refine wpAnyH_take (i := 1) (oi := { dst := some 114, op := Op.move (Operand.tmp 17), type := 3, pos := "zsortanyfunc.go:422", after := #[], guard := none }) (v := ?_) rfl (by kernel_rfl) (by kernel_rfl) (by kernel_rfl) (fun _ _ _ h => h) (Or.inl ⟨by rfl, ?_⟩) hHeld ?_
          rotate_left
          · intro w hSw
            try dsimp only at hSw
            go_simp
            try with_reducible rfl
          try simp only [Act.put, List.setIfInBounds_toArray, List.set_cons_zero, List.set_cons_succ]
          refine wpAnyH_take (i := 2) (oi := { dst := some 115, op := Op.move (Operand.tmp 0), type := 69, pos := "zsortanyfunc.go:422", after := #[{ on := 15, ground := Ground.gcOnly Departure.lateStores }], guard := none }) (v := ?_) rfl (by kernel_rfl) (by kernel_rfl) (by kernel_rfl) (fun _ _ _ h => h) (Or.inl ⟨by rfl, ?_⟩) hHeld ?_
          rotate_left
          · intro w hSw
            try dsimp only at hSw
            go_simp
            try with_reducible rfl
          try simp only [Act.put, List.setIfInBounds_toArray, List.set_cons_zero, List.set_cons_succ]
          refine wpAnyH_take (i := 3) (oi := { dst := some 116, op := Op.move (Operand.tmp 17), type := 3, pos := "zsortanyfunc.go:422", after := #[{ on := 15, ground := Ground.gcOnly Departure.lateStores }], guard := none }) (v := ?_) rfl (by kernel_rfl) (by kernel_rfl) (by kernel_rfl) (fun _ _ _ h => h) (Or.inl ⟨by rfl, ?_⟩) hHeld ?_
          rotate_left
          · intro w hSw
            try dsimp only at hSw
            go_simp
            try with_reducible rfl
          try simp only [Act.put, List.setIfInBounds_toArray, List.set_cons_zero, List.set_cons_succ]
          refine wpAnyH_take (i := 4) (oi := { dst := some 117, op := Op.binOp BinOp.sub 3 (Operand.tmp 116) (Operand.const (Value.int IntKind.i64 1)) 3, type := 3, pos := "zsortanyfunc.go:422", after := #[{ on := 3, ground := Ground.data }, { on := 15, ground := Ground.gcOnly Departure.lateStores }], guard := none }) (v := ?_) rfl (by kernel_rfl) (by kernel_rfl) (by kernel_rfl) (fun _ _ _ h => h) (Or.inl ⟨by rfl, ?_⟩) hHeld ?_
          rotate_left
          · intro w hSw
            try dsimp only at hSw
            go_simp
            try with_reducible rfl
          try simp only [Act.put, List.setIfInBounds_toArray, List.set_cons_zero, List.set_cons_succ]
          refine wpAnyH_take (i := 5) (oi := { dst := some 118, op := Op.move (Operand.tmp 0), type := 69, pos := "zsortanyfunc.go:422", after := #[], guard := none }) (v := ?_) rfl (by kernel_rfl) (by kernel_rfl) (by kernel_rfl) (fun _ _ _ h => h) (Or.inl ⟨by rfl, ?_⟩) hHeld ?_
          rotate_left
          · intro w hSw
            try dsimp only at hSw
            go_simp
            try with_reducible rfl
          try simp only [Act.put, List.setIfInBounds_toArray, List.set_cons_zero, List.set_cons_succ]
          refine wpAnyH_take (i := 6) (oi := { dst := some 119, op := Op.move (Operand.tmp 17), type := 3, pos := "zsortanyfunc.go:422", after := #[], guard := none }) (v := ?_) rfl (by kernel_rfl) (by kernel_rfl) (by kernel_rfl) (fun _ _ _ h => h) (Or.inl ⟨by rfl, ?_⟩) hHeld ?_
          rotate_left
          · intro w hSw
            try dsimp only at hSw
            go_simp
            try with_reducible rfl
          try simp only [Act.put, List.setIfInBounds_toArray, List.set_cons_zero, List.set_cons_succ]
          refine wpAnyH_take (i := 7) (oi := { dst := some 120, op := Op.binOp BinOp.sub 3 (Operand.tmp 119) (Operand.const (Value.int IntKind.i64 1)) 3, type := 3, pos := "zsortanyfunc.go:422", after := #[{ on := 6, ground := Ground.data }], guard := none }) (v := ?_) rfl (by kernel_rfl) (by kernel_rfl) (by kernel_rfl) (fun _ _ _ h => h) (Or.inl ⟨by rfl, ?_⟩) hHeld ?_
          rotate_left
          · intro w hSw
            try dsimp only at hSw
            go_simp
            try with_reducible rfl
          try simp only [Act.put, List.setIfInBounds_toArray, List.set_cons_zero, List.set_cons_succ]
          refine wpAnyH_take (i := 8) (oi := { dst := some 121, op := Op.indexAddr 69 (Operand.tmp 118) (Operand.tmp 120), type := 0, pos := "zsortanyfunc.go:422", after := #[{ on := 5, ground := Ground.data }, { on := 7, ground := Ground.data }], guard := none }) (v := ?_) rfl (by kernel_rfl) (by kernel_rfl) (by kernel_rfl) (fun _ _ _ h => h) (Or.inl ⟨by rfl, ?_⟩) hHeld ?_
          rotate_left
          · intro w hSw
            try dsimp only at hSw
            go_simp
            try with_reducible rfl
          try simp only [Act.put, List.setIfInBounds_toArray, List.set_cons_zero, List.set_cons_succ]
          refine wpAnyH_take (i := 10) (oi := { dst := some 123, op := Op.move (Operand.tmp 0), type := 69, pos := "zsortanyfunc.go:422", after := #[], guard := none }) (v := ?_) rfl (by kernel_rfl) (by kernel_rfl) (by kernel_rfl) (fun _ _ _ h => h) (Or.inl ⟨by rfl, ?_⟩) hHeld ?_
          rotate_left
          · intro w hSw
            try dsimp only at hSw
            go_simp
            try with_reducible rfl
          try simp only [Act.put, List.setIfInBounds_toArray, List.set_cons_zero, List.set_cons_succ]
          refine wpAnyH_take (i := 11) (oi := { dst := some 124, op := Op.move (Operand.tmp 17), type := 3, pos := "zsortanyfunc.go:422", after := #[], guard := none }) (v := ?_) rfl (by kernel_rfl) (by kernel_rfl) (by kernel_rfl) (fun _ _ _ h => h) (Or.inl ⟨by rfl, ?_⟩) hHeld ?_
          rotate_left
          · intro w hSw
            try dsimp only at hSw
            go_simp
            try with_reducible rfl
          try simp only [Act.put, List.setIfInBounds_toArray, List.set_cons_zero, List.set_cons_succ]
          refine wpAnyH_take (i := 12) (oi := { dst := some 125, op := Op.indexAddr 69 (Operand.tmp 123) (Operand.tmp 124), type := 0, pos := "zsortanyfunc.go:422", after := #[{ on := 10, ground := Ground.data }, { on := 11, ground := Ground.data }], guard := none }) (v := ?_) rfl (by kernel_rfl) (by kernel_rfl) (by kernel_rfl) (fun _ _ _ h => h) (Or.inl ⟨by rfl, ?_⟩) hHeld ?_
          rotate_left
          · intro w hSw
            try dsimp only at hSw
            go_simp
            try with_reducible rfl
          try simp only [Act.put, List.setIfInBounds_toArray, List.set_cons_zero, List.set_cons_succ]
          refine wpAnyH_ready (rs := [9, 13]) (by kernel_rfl) (by simp) ?_
          refine AllReadyH.cons (o := { dst := some 122, op := Op.load 3 (Operand.tmp 121), type := 3, pos := "zsortanyfunc.go:422", after := #[{ on := 8, ground := Ground.data }], guard := none }) rfl (fun K hK => ?_) (AllReadyH.cons (o := { dst := some 126, op := Op.load 3 (Operand.tmp 125), type := 3, pos := "zsortanyfunc.go:422", after := #[{ on := 12, ground := Ground.data }], guard := none }) rfl (fun K hK => ?_) (AllReadyH.nil))
          · skip
            go_simp
            refine hK.out _ _ (t0) (fun hHeld2 => ?_)
            clear hK K hHeld; have hHeld := hHeld2; clear hHeld2
            try simp only [Act.put, List.setIfInBounds_toArray, List.set_cons_zero, List.set_cons_succ]
            refine wpAnyH_ready (rs := [13]) (by kernel_rfl) (by simp) ?_
            refine AllReadyH.cons (o := { dst := some 126, op := Op.load 3 (Operand.tmp 125), type := 3, pos := "zsortanyfunc.go:422", after := #[{ on := 12, ground := Ground.data }], guard := none }) rfl (fun K hK => ?_) (AllReadyH.nil)
            go_simp
            refine hK.out _ _ (t0) (fun hHeld2 => ?_)
            clear hK K hHeld; have hHeld := hHeld2; clear hHeld2
            try simp only [Act.put, List.setIfInBounds_toArray, List.set_cons_zero, List.set_cons_succ]
            refine wpAnyH_take (i := 14) (oi := { dst := some 127, op := Op.indexAddr 69 (Operand.tmp 113) (Operand.tmp 114), type := 0, pos := "zsortanyfunc.go:422", after := #[{ on := 0, ground := Ground.data }, { on := 1, ground := Ground.data }, { on := 0, ground := Ground.phase }, { on := 1, ground := Ground.phase }, { on := 2, ground := Ground.textOnly Departure.lateStores }, { on := 3, ground := Ground.textOnly Departure.lateStores }, { on := 4, ground := Ground.textOnly Departure.lateStores }, { on := 5, ground := Ground.phase }, { on := 6, ground := Ground.phase }, { on := 7, ground := Ground.phase }, { on := 8, ground := Ground.phase }, { on := 9, ground := Ground.phase }, { on := 10, ground := Ground.textOnly Departure.lateStores }, { on := 11, ground := Ground.textOnly Departure.lateStores }, { on := 12, ground := Ground.textOnly Departure.lateStoresUnsure }, { on := 13, ground := Ground.phase }], guard := none }) (v := ?_) rfl (by kernel_rfl) (by kernel_rfl) (by kernel_rfl) (fun _ _ _ h => h) (Or.inl ⟨by rfl, ?_⟩) hHeld ?_
            rotate_left
            · intro w hSw
              try dsimp only at hSw
              go_simp
              try with_reducible rfl
            try simp only [Act.put, List.setIfInBounds_toArray, List.set_cons_zero, List.set_cons_succ]
            refine wpAnyH_ready (rs := [15]) (by kernel_rfl) (by simp) ?_
            refine AllReadyH.cons (o := { dst := none, op := Op.store 3 (Operand.tmp 127) (Operand.tmp 122), type := 0, pos := "zsortanyfunc.go:422", after := #[{ on := 14, ground := Ground.data }, { on := 9, ground := Ground.data }, { on := 0, ground := Ground.phase }, { on := 1, ground := Ground.phase }, { on := 2, ground := Ground.textOnly Departure.lateStores }, { on := 3, ground := Ground.textOnly Departure.lateStores }, { on := 4, ground := Ground.textOnly Departure.lateStores }, { on := 5, ground := Ground.phase }, { on := 6, ground := Ground.phase }, { on := 7, ground := Ground.phase }, { on := 8, ground := Ground.phase }, { on := 9, ground := Ground.phase }, { on := 10, ground := Ground.textOnly Departure.lateStores }, { on := 11, ground := Ground.textOnly Departure.lateStores }, { on := 12, ground := Ground.textOnly Departure.lateStoresUnsure }, { on := 13, ground := Ground.phase }], guard := none }) rfl (fun K hK => ?_) (AllReadyH.nil)
            go_simp
            rw [← HV1.out]
            refine hK.out _ _ (t1) (fun hHeld2 => ?_)
            clear hK K hHeld; have hHeld := hHeld2; clear hHeld2
            try simp only [Act.put, List.setIfInBounds_toArray, List.set_cons_zero, List.set_cons_succ]
            refine wpAnyH_take (i := 16) (oi := { dst := some 128, op := Op.indexAddr 69 (Operand.tmp 115) (Operand.tmp 117), type := 0, pos := "zsortanyfunc.go:422", after := #[{ on := 2, ground := Ground.data }, { on := 4, ground := Ground.data }, { on := 0, ground := Ground.phase }, { on := 1, ground := Ground.phase }, { on := 2, ground := Ground.phase }, { on := 3, ground := Ground.phase }, { on := 4, ground := Ground.phase }, { on := 5, ground := Ground.phase }, { on := 6, ground := Ground.phase }, { on := 7, ground := Ground.phase }, { on := 8, ground := Ground.phase }, { on := 9, ground := Ground.phase }, { on := 10, ground := Ground.phase }, { on := 11, ground := Ground.phase }, { on := 12, ground := Ground.phase }, { on := 13, ground := Ground.phase }, { on := 14, ground := Ground.phase }, { on := 15, ground := Ground.phase }], guard := none }) (v := ?_) rfl (by kernel_rfl) (by kernel_rfl) (by kernel_rfl) (fun _ _ _ h => h) (Or.inl ⟨by rfl, ?_⟩) hHeld ?_
            rotate_left
            · intro w hSw
              try dsimp only at hSw
              go_simp
              try with_reducible rfl
            try simp only [Act.put, List.setIfInBounds_toArray, List.set_cons_zero, List.set_cons_succ]
            refine wpAnyH_ready (rs := [17]) (by kernel_rfl) (by simp) ?_
            refine AllReadyH.cons (o := { dst := none, op := Op.store 3 (Operand.tmp 128) (Operand.tmp 126), type := 0, pos := "zsortanyfunc.go:422", after := #[{ on := 16, ground := Ground.data }, { on := 13, ground := Ground.data }, { on := 15, ground := Ground.chain }, { on := 0, ground := Ground.phase }, { on := 1, ground := Ground.phase }, { on := 2, ground := Ground.phase }, { on := 3, ground := Ground.phase }, { on := 4, ground := Ground.phase }, { on := 5, ground := Ground.phase }, { on := 6, ground := Ground.phase }, { on := 7, ground := Ground.phase }, { on := 8, ground := Ground.phase }, { on := 9, ground := Ground.phase }, { on := 10, ground := Ground.phase }, { on := 11, ground := Ground.phase }, { on := 12, ground := Ground.phase }, { on := 13, ground := Ground.phase }, { on := 14, ground := Ground.phase }, { on := 15, ground := Ground.phase }], guard := none }) rfl (fun K hK => ?_) (AllReadyH.nil)
            go_simp
            rw [← HV2.out]
            refine hK.out _ _ (t2) (fun hHeld2 => ?_)
            clear hK K hHeld; have hHeld := hHeld2; clear hHeld2
            try simp only [Act.put, List.setIfInBounds_toArray, List.set_cons_zero, List.set_cons_succ]
            refine wpAnyH_done (by kernel_rfl) ?_ _
            clear hHeld
            go_wp2_with fail
            go_roundw
            case rel => exact ⟨k, by go_num, by omega, by omega, by rw [HV2.out, HV1b.out]; exact HE2.out, by rw [HV2.out, HV1b.out]; exact HO2.out⟩
            case measure => simp [intOf]
          · skip
            go_simp
            refine hK.out _ _ (t0) (fun hHeld2 => ?_)
            clear hK K hHeld; have hHeld := hHeld2; clear hHeld2
            try simp only [Act.put, List.setIfInBounds_toArray, List.set_cons_zero, List.set_cons_succ]
            refine wpAnyH_ready (rs := [9]) (by kernel_rfl) (by simp) ?_
            refine AllReadyH.cons (o := { dst := some 122, op := Op.load 3 (Operand.tmp 121), type := 3, pos := "zsortanyfunc.go:422", after := #[{ on := 8, ground := Ground.data }], guard := none }) rfl (fun K hK => ?_) (AllReadyH.nil)
            go_simp
            refine hK.out _ _ (t0) (fun hHeld2 => ?_)
            clear hK K hHeld; have hHeld := hHeld2; clear hHeld2
            try simp only [Act.put, List.setIfInBounds_toArray, List.set_cons_zero, List.set_cons_succ]
            refine wpAnyH_take (i := 14) (oi := { dst := some 127, op := Op.indexAddr 69 (Operand.tmp 113) (Operand.tmp 114), type := 0, pos := "zsortanyfunc.go:422", after := #[{ on := 0, ground := Ground.data }, { on := 1, ground := Ground.data }, { on := 0, ground := Ground.phase }, { on := 1, ground := Ground.phase }, { on := 2, ground := Ground.textOnly Departure.lateStores }, { on := 3, ground := Ground.textOnly Departure.lateStores }, { on := 4, ground := Ground.textOnly Departure.lateStores }, { on := 5, ground := Ground.phase }, { on := 6, ground := Ground.phase }, { on := 7, ground := Ground.phase }, { on := 8, ground := Ground.phase }, { on := 9, ground := Ground.phase }, { on := 10, ground := Ground.textOnly Departure.lateStores }, { on := 11, ground := Ground.textOnly Departure.lateStores }, { on := 12, ground := Ground.textOnly Departure.lateStoresUnsure }, { on := 13, ground := Ground.phase }], guard := none }) (v := ?_) rfl (by kernel_rfl) (by kernel_rfl) (by kernel_rfl) (fun _ _ _ h => h) (Or.inl ⟨by rfl, ?_⟩) hHeld ?_
            rotate_left
            · intro w hSw
              try dsimp only at hSw
              go_simp
              try with_reducible rfl
            try simp only [Act.put, List.setIfInBounds_toArray, List.set_cons_zero, List.set_cons_succ]
            refine wpAnyH_ready (rs := [15]) (by kernel_rfl) (by simp) ?_
            refine AllReadyH.cons (o := { dst := none, op := Op.store 3 (Operand.tmp 127) (Operand.tmp 122), type := 0, pos := "zsortanyfunc.go:422", after := #[{ on := 14, ground := Ground.data }, { on := 9, ground := Ground.data }, { on := 0, ground := Ground.phase }, { on := 1, ground := Ground.phase }, { on := 2, ground := Ground.textOnly Departure.lateStores }, { on := 3, ground := Ground.textOnly Departure.lateStores }, { on := 4, ground := Ground.textOnly Departure.lateStores }, { on := 5, ground := Ground.phase }, { on := 6, ground := Ground.phase }, { on := 7, ground := Ground.phase }, { on := 8, ground := Ground.phase }, { on := 9, ground := Ground.phase }, { on := 10, ground := Ground.textOnly Departure.lateStores }, { on := 11, ground := Ground.textOnly Departure.lateStores }, { on := 12, ground := Ground.textOnly Departure.lateStoresUnsure }, { on := 13, ground := Ground.phase }], guard := none }) rfl (fun K hK => ?_) (AllReadyH.nil)
            go_simp
            rw [← HV1.out]
            refine hK.out _ _ (t1) (fun hHeld2 => ?_)
            clear hK K hHeld; have hHeld := hHeld2; clear hHeld2
            try simp only [Act.put, List.setIfInBounds_toArray, List.set_cons_zero, List.set_cons_succ]
            refine wpAnyH_take (i := 16) (oi := { dst := some 128, op := Op.indexAddr 69 (Operand.tmp 115) (Operand.tmp 117), type := 0, pos := "zsortanyfunc.go:422", after := #[{ on := 2, ground := Ground.data }, { on := 4, ground := Ground.data }, { on := 0, ground := Ground.phase }, { on := 1, ground := Ground.phase }, { on := 2, ground := Ground.phase }, { on := 3, ground := Ground.phase }, { on := 4, ground := Ground.phase }, { on := 5, ground := Ground.phase }, { on := 6, ground := Ground.phase }, { on := 7, ground := Ground.phase }, { on := 8, ground := Ground.phase }, { on := 9, ground := Ground.phase }, { on := 10, ground := Ground.phase }, { on := 11, ground := Ground.phase }, { on := 12, ground := Ground.phase }, { on := 13, ground := Ground.phase }, { on := 14, ground := Ground.phase }, { on := 15, ground := Ground.phase }], guard := none }) (v := ?_) rfl (by kernel_rfl) (by kernel_rfl) (by kernel_rfl) (fun _ _ _ h => h) (Or.inl ⟨by rfl, ?_⟩) hHeld ?_
            rotate_left
            · intro w hSw
              try dsimp only at hSw
              go_simp
              try with_reducible rfl
            try simp only [Act.put, List.setIfInBounds_toArray, List.set_cons_zero, List.set_cons_succ]
            refine wpAnyH_ready (rs := [17]) (by kernel_rfl) (by simp) ?_
            refine AllReadyH.cons (o := { dst := none, op := Op.store 3 (Operand.tmp 128) (Operand.tmp 126), type := 0, pos := "zsortanyfunc.go:422", after := #[{ on := 16, ground := Ground.data }, { on := 13, ground := Ground.data }, { on := 15, ground := Ground.chain }, { on := 0, ground := Ground.phase }, { on := 1, ground := Ground.phase }, { on := 2, ground := Ground.phase }, { on := 3, ground := Ground.phase }, { on := 4, ground := Ground.phase }, { on := 5, ground := Ground.phase }, { on := 6, ground := Ground.phase }, { on := 7, ground := Ground.phase }, { on := 8, ground := Ground.phase }, { on := 9, ground := Ground.phase }, { on := 10, ground := Ground.phase }, { on := 11, ground := Ground.phase }, { on := 12, ground := Ground.phase }, { on := 13, ground := Ground.phase }, { on := 14, ground := Ground.phase }, { on := 15, ground := Ground.phase }], guard := none }) rfl (fun K hK => ?_) (AllReadyH.nil)
            go_simp
            rw [← HV2.out]
            refine hK.out _ _ (t2) (fun hHeld2 => ?_)
            clear hK K hHeld; have hHeld := hHeld2; clear hHeld2
            try simp only [Act.put, List.setIfInBounds_toArray, List.set_cons_zero, List.set_cons_succ]
            refine wpAnyH_done (by kernel_rfl) ?_ _
            clear hHeld
            go_wp2_with fail
            go_roundw
            case rel => exact ⟨k, by go_num, by omega, by omega, by rw [HV2.out, HV1b.out]; exact HE2.out, by rw [HV2.out, HV1b.out]; exact HO2.out⟩
            case measure => simp [intOf]
        · obtain rfl : k = i := by omega
          have hl1 : ¬ (k : Int) < (k : Int) := by omega
          have HR := Lib.hid (show SoP gO gT gF n far lo (m + 1) a W (.returned (.tuple #[])) wr from ⟨rfl, shD a m k, hE, hO, shD_pm a (m - k) k (by omega) (by omega), shD_sd HM.out.l hi1 hk2 (fun q q1 q2 => HA.out q q1 q2) (fun q q1 q2 => HB.out q q1 q2)⟩)
          go_wp2_with fail
          refine bodyPost_ret (results_none rfl _ _ _) rfl ?_
          exact HR.out
end Go.Proofs.Ytoiccljmdplfgaa.So
