/-
  THE STABLE SORT OF PLACES: insertion: walked.
-/
import Derived.Test.YtoiccljmdplfgaaSo1
import Derived.Deep.RegionHeld3
import Derived.Deep.DeepCutAuto
namespace Go.Proofs.Ytoiccljmdplfgaa.So
open Go.ChangeShapes Go.WideShapes Go.ChangeAt Go.RowKit
open Go.Proofs.Ytoiccljmdplfgaa
open Go.Proofs.Ytoiccljmdplfgaa.Wd
open Go.Proofs.Ytoiccljmdplfgaa.Nr (Only cmpF)
set_option linter.unusedVariables false
set_option linter.unusedSimpArgs false
theorem only_set {g : Nat} {a b : World} (h : Only g a b) (k : Nat) (v : Value) : Only g a (b.setCell ⟨g, k, none⟩ v) :=
  ⟨h.os, h.tape, h.output, by rw [← h.size]; simp [World.setCell], fun i hi => (Below.heap_setCell b ⟨g, k, none⟩ v i hi).trans (h.block i hi)⟩
def SoP (gO gT gF n : Nat) (far : Nat → Int) (lo hi : Nat) (a : Fn_) (W : World) (e : Ending) (w' : World) : Prop :=
  e = .returned (.tuple #[]) ∧ ∃ a', En gO gT gF n far a' w' ∧ Only gO W w' ∧ Pm lo hi a a' ∧ Sd far lo hi a'
theorem lt0_yes {x y : Int} (h : x < y) : decide (cmpV x y < 0) = true := by unfold cmpV; rw [if_pos h]; rfl
theorem lt0_no {x y : Int} (h : ¬ x < y) : decide (cmpV x y < 0) = false := by
  unfold cmpV; rw [if_neg h]; split <;> rfl
set_option maxRecDepth 1000000 in
set_option maxHeartbeats 6400000 in
theorem insert_any (gO gT gF n : Nat) (far : Nat → Int) (lo hi : Nat) (a : Fn_) (W : World) (h : En gO gT gF n far a W) (h1 : gO ≠ gT) (h2 : gO ≠ gF) (hn : n ≤ 4096) (hlo : lo ≤ hi) (hhi : hi ≤ n) (hup : Up lo hi a) :
    Calls Try.prog 101 #[.slice (some ⟨gO, 0, none⟩) n n, .int .i64 (lo : Int), .int .i64 (hi : Int), cmpF gT] W (SoP gO gT gF n far lo hi a W) := by
  go_enter Try.func101, Try.ntmps101
  go_wp2_with fail
  go_loopw [8] (fun v wr => ∃ (i : Nat) (b : Fn_), v = .int .i64 i ∧ lo + 1 ≤ i ∧ (i ≤ hi ∨ i = lo + 1) ∧ En gO gT gF n far b wr ∧ Only gO W wr ∧ Pm lo i a b ∧ Sd far lo i b) (fun v _ => hi - (intOf v).toNat)
  case atStart => exact ⟨lo + 1, a, by go_num, Nat.le_refl _, .inr rfl, h, Only.refl _ _, Pm.refl _ _ _, Sd.one (Nat.le_refl _)⟩
  case round =>
    clear h
    obtain ⟨i, b, rfl, hi1, hi2, hE, hO, hP, hS⟩ := hrel
    have HP := Lib.hid hP; have HS := Lib.hid hS
    clear hP hS
    by_cases hlt : i < hi
    · have hlt' : (i : Int) < (hi : Int) := by omega
      go_wp2_with fail
      obtain ⟨wo, rfl⟩ : ∃ wo : World, wo = wr := ⟨_, rfl⟩
      go_loopw [9] (fun v wq => ∃ j : Nat, v = .int .i64 j ∧ lo ≤ j ∧ j ≤ i ∧ En gO gT gF n far (shD b i j) wq ∧ Only gO W wq ∧ (∀ q, j ≤ q → q < i → Lt far (b i) (b q))) (fun v _ => (intOf v).toNat)
      case atStart => exact ⟨i, rfl, by omega, Nat.le_refl _, by rw [shD_m]; exact hE, hO, fun q q1 q2 => by omega⟩
      case round =>
        clear hE hO
        obtain ⟨j, rfl, hj1, hj2, hE, hO, hL⟩ := hrel
        have HL := Lib.hid hL; clear hL
        have HDN := Lib.hid (fun (q3 : ∀ q, lo ≤ q → q < j → Lt far (b q) (b i)) (wx : World) (e : En gO gT gF n far (shD b i j) wx) (oo : Only gO W wx) => (show ∃ (i' : Nat) (b' : Fn_), (Value.int .i64 ((i + 1 : Nat) : Int)) = .int .i64 i' ∧ lo + 1 ≤ i' ∧ (i' ≤ hi ∨ i' = lo + 1) ∧ En gO gT gF n far b' wx ∧ Only gO W wx ∧ Pm lo i' a b' ∧ Sd far lo i' b' from
          ⟨i + 1, shD b i j, rfl, by omega, .inl (by omega), e, oo, (HP.out.mono (Nat.le_refl _) (Nat.le_succ _)).trans (shD_pm b (i - j) j (by omega) hj1), shD_sd HS.out hj1 hj2 q3 HL.out⟩))
        by_cases hjl : j = lo
        · subst hjl
          have g0 : decide ((j : Int) < (j : Int)) = false := by simp
          have HX := Lib.hid (fun wx e oo => HDN.out (fun q q1 q2 => by omega) wx e oo)
          clear HDN
          go_upto_region 4 with fail
          go_quiet (fail)
          go_wp2_with fail
          go_roundw
          case rel => exact HX.out _ (hE.drewN _) (only_drewN hO _)
          case measure => simp [intOf]; omega
        · obtain ⟨k, rfl⟩ : ∃ k, j = k + 1 := ⟨j - 1, by omega⟩
          have hin : i < n := by omega
          have v1 : shD b i (k + 1) (k + 1) = b i := by unfold shD; rw [if_neg (by omega), if_pos rfl]
          have v2 : shD b i (k + 1) k = b k := by unfold shD; rw [if_neg (by omega), if_neg (by omega)]
          have b1 := hE.b (k + 1) (by omega); have b2 := hE.b k (by omega)
          rw [v1] at b1; rw [v2] at b2
          have c1 : wr.cell? ⟨gO, k + 1, none⟩ = some (.int .i64 (b i : Nat)) := by have := hE.o.cell (i := k + 1) (by omega); rw [v1] at this; exact this
          have c2 : wr.cell? ⟨gO, k, none⟩ = some (.int .i64 (b k : Nat)) := by have := hE.o.cell (i := k) (by omega); rw [v2] at this; exact this
          have hvl : b k < b i := by
            obtain ⟨k', k1, k2, e⟩ := HP.out.from_ (show lo ≤ k by omega) (show k < i by omega)
            rw [e, HP.out.out (.inr (Nat.le_refl i))]
            exact hup k' i k1 k2 hlt
          have HSt := Lib.hid (shD_step b i k (by omega))
          have hcm := fun q => cmp_any gO gT gF n far (shD b i (k + 1)) (wr.drewN q) (hE.drewN q) hn (b i) (b k) b1 b2
          have t1 : (lo : Int) < (k : Int) + 1 := by omega
          have t2 : ((k : Int) + 1) < (n : Int) := by omega
          have t3 : (k : Int) < (n : Int) := by omega
          have t4 : IntKind.i64.wrap (k : Int) = (k : Int) := IntWalk.i64_in _ (by omega)
          have t5 : ((k + 1 : Nat) : Int) = (k : Int) + 1 := by omega
          have t6 : (0 : Int) ≤ (k : Int) + 1 := by omega
          have t7 : (0 : Int) ≤ (k : Int) := by omega
          rw [t5]
          by_cases hf : far (b i) < far (b k)
          · have f0 := lt0_yes hf
            have hlk : Lt far (b i) (b k) := .of_lt hf
            generalize far (b i) = fi at *
            generalize far (b k) = fk at *
            generalize cmpV fi fk = cv at *
            go_upto_region 4 with fail
            go_quiet ((go_at_call 75; exact Calls.quiet_of (hcm _)))
            go_wp2_with fail
            obtain ⟨V0, hV0⟩ : ∃ V0 : World, V0 = wr.drewN nq := ⟨_, rfl⟩
            have hE0 : En gO gT gF n far (shD b i (k + 1)) V0 := by rw [hV0]; exact hE.drewN nq
            have hO0 : Only gO W V0 := by rw [hV0]; exact only_drewN hO nq
            have hE2 := hE0.drew.swp_ h1 h2 (show k + 1 < n by omega) (show k < n by omega) (show k + 1 ≠ k by omega)
            rw [v1, v2, HSt.out] at hE2
            have hO2 := only_set (only_set hO0.drew (k + 1) (.int .i64 (b k : Nat))) k (.int .i64 (b i : Nat))
            have hLk : ∀ q, k ≤ q → q < i → Lt far (b i) (b q) := fun q q1 q2 => by
              by_cases e : q = k
              · rw [e]; exact hlk
              · exact HL.out q (by omega) q2
            rw [← hV0]
            have c1 : V0.drew.cell? ⟨gO, k + 1, none⟩ = some (.int .i64 (b i : Nat)) := by rw [hV0]; exact c1
            have c2 : V0.drew.cell? ⟨gO, k, none⟩ = some (.int .i64 (b k : Nat)) := by rw [hV0]; exact c2
            obtain ⟨vx, hvx⟩ : ∃ v, b i = v := ⟨_, rfl⟩
            obtain ⟨vy, hvy⟩ : ∃ v, b k = v := ⟨_, rfl⟩
            rw [hvx, hvy] at hE2 hO2
            rw [hvx] at c1; rw [hvy] at c2
            have HE2 := Lib.hid hE2; have HO2 := Lib.hid hO2; have HLK := Lib.hid hLk
            have hxy : (⟨gO, k, none⟩ : Addr) ≠ ⟨gO, k + 1, none⟩ := fun e => by injection e with _ e _; omega
            have HVX := Lib.hid hvx; have HVY := Lib.hid hvy
            clear hV0 hE2 hO2 hLk hcm hE hO hO0 hvl hlk v1 v2 b1 b2
            rw [hvx, hvy]
            clear hvx hvy
            go_upto_region 6 with fail
            obtain ⟨V1, hV1⟩ : ∃ V1 : World, V1 = V0.drew.setCell ⟨gO, k + 1, none⟩ (.int .i64 (vy : Nat)) := ⟨_, rfl⟩
            obtain ⟨V2, hV2⟩ : ∃ V2 : World, V2 = V1.setCell ⟨gO, k, none⟩ (.int .i64 (vx : Nat)) := ⟨_, rfl⟩
            have hV1' : V1 = (V0.setCell ⟨gO, k + 1, none⟩ (.int .i64 (vy : Nat))).drew := by rw [hV1, World.setCell_drew]
            have f1 : V0.drew.frozen? ⟨gO, k + 1, none⟩ = false := hE0.o.frozen (k + 1)
            have c2' : V1.cell? ⟨gO, k, none⟩ = some (.int .i64 (vy : Nat)) := by rw [hV1, World.cell?_setCell_other _ _ _ _ (Ne.symm hxy)]; exact c2
            have f2 : V1.frozen? ⟨gO, k, none⟩ = false := by rw [hV1, World.frozen?_setCell]; exact hE0.o.frozen (k)
            have t0 : V0.drew.cell? ⟨gT, 0, none⟩ = some (.slice (some ⟨gF, 0, none⟩) n n) := hE0.t.cell 0
            have t1 : V1.cell? ⟨gT, 0, none⟩ = some (.slice (some ⟨gF, 0, none⟩) n n) := by rw [hV1, World.cell?_setCell_other _ _ _ _ (fun e => h1 (congrArg Addr.block e))]; exact t0
            have t2 : V2.cell? ⟨gT, 0, none⟩ = some (.slice (some ⟨gF, 0, none⟩) n n) := by rw [hV2, World.cell?_setCell_other _ _ _ _ (fun e => h1 (congrArg Addr.block e))]; exact t1
            have HV1 := Lib.hid hV1'; have HV1b := Lib.hid hV1; have HV2 := Lib.hid hV2; clear hV1' hV1 hV2
            refine wp_region_held_drew (S := fun w' => w'.cell? ⟨gT, 0, none⟩ = some (.slice (some ⟨gF, 0, none⟩) n n)) (by kernel_rfl) (t0) (fun hHeld => ?_)
            refine wpAnyH_take (i := 0) (oi := { dst := some 37, op := Op.move (Operand.tmp 0), type := 69, pos := "zsortanyfunc.go:13", after := #[], guard := none }) (v := ?_) rfl (by kernel_rfl) (by kernel_rfl) (by kernel_rfl) (fun _ _ _ h => h) (Or.inl ⟨by rfl, ?_⟩) hHeld ?_
            rotate_left
            · intro w hSw
              try dsimp only at hSw
              go_simp
              try with_reducible rfl
            try simp only [Act.put, List.setIfInBounds_toArray, List.set_cons_zero, List.set_cons_succ]
            refine wpAnyH_take (i := 1) (oi := { dst := some 38, op := Op.move (Operand.tmp 9), type := 3, pos := "zsortanyfunc.go:13", after := #[], guard := none }) (v := ?_) rfl (by kernel_rfl) (by kernel_rfl) (by kernel_rfl) (fun _ _ _ h => h) (Or.inl ⟨by rfl, ?_⟩) hHeld ?_
            rotate_left
            · intro w hSw
              try dsimp only at hSw
              go_simp
              try with_reducible rfl
            try simp only [Act.put, List.setIfInBounds_toArray, List.set_cons_zero, List.set_cons_succ]
            refine wpAnyH_take (i := 2) (oi := { dst := some 39, op := Op.move (Operand.tmp 0), type := 69, pos := "zsortanyfunc.go:13", after := #[{ on := 15, ground := Ground.gcOnly Departure.lateStores }], guard := none }) (v := ?_) rfl (by kernel_rfl) (by kernel_rfl) (by kernel_rfl) (fun _ _ _ h => h) (Or.inl ⟨by rfl, ?_⟩) hHeld ?_
            rotate_left
            · intro w hSw
              try dsimp only at hSw
              go_simp
              try with_reducible rfl
            try simp only [Act.put, List.setIfInBounds_toArray, List.set_cons_zero, List.set_cons_succ]
            refine wpAnyH_take (i := 3) (oi := { dst := some 40, op := Op.move (Operand.tmp 9), type := 3, pos := "zsortanyfunc.go:13", after := #[{ on := 15, ground := Ground.gcOnly Departure.lateStores }], guard := none }) (v := ?_) rfl (by kernel_rfl) (by kernel_rfl) (by kernel_rfl) (fun _ _ _ h => h) (Or.inl ⟨by rfl, ?_⟩) hHeld ?_
            rotate_left
            · intro w hSw
              try dsimp only at hSw
              go_simp
              try with_reducible rfl
            try simp only [Act.put, List.setIfInBounds_toArray, List.set_cons_zero, List.set_cons_succ]
            refine wpAnyH_take (i := 4) (oi := { dst := some 41, op := Op.binOp BinOp.sub 3 (Operand.tmp 40) (Operand.const (Value.int IntKind.i64 1)) 3, type := 3, pos := "zsortanyfunc.go:13", after := #[{ on := 3, ground := Ground.data }, { on := 15, ground := Ground.gcOnly Departure.lateStores }], guard := none }) (v := ?_) rfl (by kernel_rfl) (by kernel_rfl) (by kernel_rfl) (fun _ _ _ h => h) (Or.inl ⟨by rfl, ?_⟩) hHeld ?_
            rotate_left
            · intro w hSw
              try dsimp only at hSw
              go_simp
              try with_reducible rfl
            try simp only [Act.put, List.setIfInBounds_toArray, List.set_cons_zero, List.set_cons_succ]
            refine wpAnyH_take (i := 5) (oi := { dst := some 42, op := Op.move (Operand.tmp 0), type := 69, pos := "zsortanyfunc.go:13", after := #[], guard := none }) (v := ?_) rfl (by kernel_rfl) (by kernel_rfl) (by kernel_rfl) (fun _ _ _ h => h) (Or.inl ⟨by rfl, ?_⟩) hHeld ?_
            rotate_left
            · intro w hSw
              try dsimp only at hSw
              go_simp
              try with_reducible rfl
            try simp only [Act.put, List.setIfInBounds_toArray, List.set_cons_zero, List.set_cons_succ]
            refine wpAnyH_take (i := 6) (oi := { dst := some 43, op := Op.move (Operand.tmp 9), type := 3, pos := "zsortanyfunc.go:13", after := #[], guard := none }) (v := ?_) rfl (by kernel_rfl) (by kernel_rfl) (by kernel_rfl) (fun _ _ _ h => h) (Or.inl ⟨by rfl, ?_⟩) hHeld ?_
            rotate_left
            · intro w hSw
              try dsimp only at hSw
              go_simp
              try with_reducible rfl
            try simp only [Act.put, List.setIfInBounds_toArray, List.set_cons_zero, List.set_cons_succ]
            refine wpAnyH_take (i := 7) (oi := { dst := some 44, op := Op.binOp BinOp.sub 3 (Operand.tmp 43) (Operand.const (Value.int IntKind.i64 1)) 3, type := 3, pos := "zsortanyfunc.go:13", after := #[{ on := 6, ground := Ground.data }], guard := none }) (v := ?_) rfl (by kernel_rfl) (by kernel_rfl) (by kernel_rfl) (fun _ _ _ h => h) (Or.inl ⟨by rfl, ?_⟩) hHeld ?_
            rotate_left
            · intro w hSw
              try dsimp only at hSw
              go_simp
              try with_reducible rfl
            try simp only [Act.put, List.setIfInBounds_toArray, List.set_cons_zero, List.set_cons_succ]
            refine wpAnyH_take (i := 8) (oi := { dst := some 45, op := Op.indexAddr 69 (Operand.tmp 42) (Operand.tmp 44), type := 0, pos := "zsortanyfunc.go:13", after := #[{ on := 5, ground := Ground.data }, { on := 7, ground := Ground.data }], guard := none }) (v := ?_) rfl (by kernel_rfl) (by kernel_rfl) (by kernel_rfl) (fun _ _ _ h => h) (Or.inl ⟨by rfl, ?_⟩) hHeld ?_
            rotate_left
            · intro w hSw
              try dsimp only at hSw
              go_simp
              try with_reducible rfl
            try simp only [Act.put, List.setIfInBounds_toArray, List.set_cons_zero, List.set_cons_succ]
            refine wpAnyH_take (i := 10) (oi := { dst := some 47, op := Op.move (Operand.tmp 0), type := 69, pos := "zsortanyfunc.go:13", after := #[], guard := none }) (v := ?_) rfl (by kernel_rfl) (by kernel_rfl) (by kernel_rfl) (fun _ _ _ h => h) (Or.inl ⟨by rfl, ?_⟩) hHeld ?_
            rotate_left
            · intro w hSw
              try dsimp only at hSw
              go_simp
              try with_reducible rfl
            try simp only [Act.put, List.setIfInBounds_toArray, List.set_cons_zero, List.set_cons_succ]
            refine wpAnyH_take (i := 11) (oi := { dst := some 48, op := Op.move (Operand.tmp 9), type := 3, pos := "zsortanyfunc.go:13", after := #[], guard := none }) (v := ?_) rfl (by kernel_rfl) (by kernel_rfl) (by kernel_rfl) (fun _ _ _ h => h) (Or.inl ⟨by rfl, ?_⟩) hHeld ?_
            rotate_left
            · intro w hSw
              try dsimp only at hSw
              go_simp
              try with_reducible rfl
            try simp only [Act.put, List.setIfInBounds_toArray, List.set_cons_zero, List.set_cons_succ]
            refine wpAnyH_take (i := 12) (oi := { dst := some 49, op := Op.indexAddr 69 (Operand.tmp 47) (Operand.tmp 48), type := 0, pos := "zsortanyfunc.go:13", after := #[{ on := 10, ground := Ground.data }, { on := 11, ground := Ground.data }], guard := none }) (v := ?_) rfl (by kernel_rfl) (by kernel_rfl) (by kernel_rfl) (fun _ _ _ h => h) (Or.inl ⟨by rfl, ?_⟩) hHeld ?_
            rotate_left
            · intro w hSw
              try dsimp only at hSw
              go_simp
              try with_reducible rfl
            try simp only [Act.put, List.setIfInBounds_toArray, List.set_cons_zero, List.set_cons_succ]
            refine wpAnyH_ready (rs := [9, 13]) (by kernel_rfl) (by simp) ?_
            refine AllReadyH.cons (o := { dst := some 46, op := Op.load 3 (Operand.tmp 45), type := 3, pos := "zsortanyfunc.go:13", after := #[{ on := 8, ground := Ground.data }], guard := none }) rfl (fun K hK => ?_) (AllReadyH.cons (o := { dst := some 50, op := Op.load 3 (Operand.tmp 49), type := 3, pos := "zsortanyfunc.go:13", after := #[{ on := 12, ground := Ground.data }], guard := none }) rfl (fun K hK => ?_) (AllReadyH.nil))
            · skip
              go_simp
              refine hK.out _ _ (t0) (fun hHeld2 => ?_)
              clear hK K hHeld; have hHeld := hHeld2; clear hHeld2
              try simp only [Act.put, List.setIfInBounds_toArray, List.set_cons_zero, List.set_cons_succ]
              refine wpAnyH_ready (rs := [13]) (by kernel_rfl) (by simp) ?_
              refine AllReadyH.cons (o := { dst := some 50, op := Op.load 3 (Operand.tmp 49), type := 3, pos := "zsortanyfunc.go:13", after := #[{ on := 12, ground := Ground.data }], guard := none }) rfl (fun K hK => ?_) (AllReadyH.nil)
              go_simp
              refine hK.out _ _ (t0) (fun hHeld2 => ?_)
              clear hK K hHeld; have hHeld := hHeld2; clear hHeld2
              try simp only [Act.put, List.setIfInBounds_toArray, List.set_cons_zero, List.set_cons_succ]
              refine wpAnyH_take (i := 14) (oi := { dst := some 51, op := Op.indexAddr 69 (Operand.tmp 37) (Operand.tmp 38), type := 0, pos := "zsortanyfunc.go:13", after := #[{ on := 0, ground := Ground.data }, { on := 1, ground := Ground.data }, { on := 0, ground := Ground.phase }, { on := 1, ground := Ground.phase }, { on := 2, ground := Ground.textOnly Departure.lateStores }, { on := 3, ground := Ground.textOnly Departure.lateStores }, { on := 4, ground := Ground.textOnly Departure.lateStores }, { on := 5, ground := Ground.phase }, { on := 6, ground := Ground.phase }, { on := 7, ground := Ground.phase }, { on := 8, ground := Ground.phase }, { on := 9, ground := Ground.phase }, { on := 10, ground := Ground.textOnly Departure.lateStores }, { on := 11, ground := Ground.textOnly Departure.lateStores }, { on := 12, ground := Ground.textOnly Departure.lateStoresUnsure }, { on := 13, ground := Ground.phase }], guard := none }) (v := ?_) rfl (by kernel_rfl) (by kernel_rfl) (by kernel_rfl) (fun _ _ _ h => h) (Or.inl ⟨by rfl, ?_⟩) hHeld ?_
              rotate_left
              · intro w hSw
                try dsimp only at hSw
                go_simp
                try with_reducible rfl
              try simp only [Act.put, List.setIfInBounds_toArray, List.set_cons_zero, List.set_cons_succ]
              refine wpAnyH_ready (rs := [15]) (by kernel_rfl) (by simp) ?_
              refine AllReadyH.cons (o := { dst := none, op := Op.store 3 (Operand.tmp 51) (Operand.tmp 46), type := 0, pos := "zsortanyfunc.go:13", after := #[{ on := 14, ground := Ground.data }, { on := 9, ground := Ground.data }, { on := 0, ground := Ground.phase }, { on := 1, ground := Ground.phase }, { on := 2, ground := Ground.textOnly Departure.lateStores }, { on := 3, ground := Ground.textOnly Departure.lateStores }, { on := 4, ground := Ground.textOnly Departure.lateStores }, { on := 5, ground := Ground.phase }, { on := 6, ground := Ground.phase }, { on := 7, ground := Ground.phase }, { on := 8, ground := Ground.phase }, { on := 9, ground := Ground.phase }, { on := 10, ground := Ground.textOnly Departure.lateStores }, { on := 11, ground := Ground.textOnly Departure.lateStores }, { on := 12, ground := Ground.textOnly Departure.lateStoresUnsure }, { on := 13, ground := Ground.phase }], guard := none }) rfl (fun K hK => ?_) (AllReadyH.nil)
              go_simp
              rw [← HV1.out]
              refine hK.out _ _ (t1) (fun hHeld2 => ?_)
              clear hK K hHeld; have hHeld := hHeld2; clear hHeld2
              try simp only [Act.put, List.setIfInBounds_toArray, List.set_cons_zero, List.set_cons_succ]
              refine wpAnyH_take (i := 16) (oi := { dst := some 52, op := Op.indexAddr 69 (Operand.tmp 39) (Operand.tmp 41), type := 0, pos := "zsortanyfunc.go:13", after := #[{ on := 2, ground := Ground.data }, { on := 4, ground := Ground.data }, { on := 0, ground := Ground.phase }, { on := 1, ground := Ground.phase }, { on := 2, ground := Ground.phase }, { on := 3, ground := Ground.phase }, { on := 4, ground := Ground.phase }, { on := 5, ground := Ground.phase }, { on := 6, ground := Ground.phase }, { on := 7, ground := Ground.phase }, { on := 8, ground := Ground.phase }, { on := 9, ground := Ground.phase }, { on := 10, ground := Ground.phase }, { on := 11, ground := Ground.phase }, { on := 12, ground := Ground.phase }, { on := 13, ground := Ground.phase }, { on := 14, ground := Ground.phase }, { on := 15, ground := Ground.phase }], guard := none }) (v := ?_) rfl (by kernel_rfl) (by kernel_rfl) (by kernel_rfl) (fun _ _ _ h => h) (Or.inl ⟨by rfl, ?_⟩) hHeld ?_
              rotate_left
              · intro w hSw
                try dsimp only at hSw
                go_simp
                try with_reducible rfl
              try simp only [Act.put, List.setIfInBounds_toArray, List.set_cons_zero, List.set_cons_succ]
              refine wpAnyH_ready (rs := [17]) (by kernel_rfl) (by simp) ?_
              refine AllReadyH.cons (o := { dst := none, op := Op.store 3 (Operand.tmp 52) (Operand.tmp 50), type := 0, pos := "zsortanyfunc.go:13", after := #[{ on := 16, ground := Ground.data }, { on := 13, ground := Ground.data }, { on := 15, ground := Ground.chain }, { on := 0, ground := Ground.phase }, { on := 1, ground := Ground.phase }, { on := 2, ground := Ground.phase }, { on := 3, ground := Ground.phase }, { on := 4, ground := Ground.phase }, { on := 5, ground := Ground.phase }, { on := 6, ground := Ground.phase }, { on := 7, ground := Ground.phase }, { on := 8, ground := Ground.phase }, { on := 9, ground := Ground.phase }, { on := 10, ground := Ground.phase }, { on := 11, ground := Ground.phase }, { on := 12, ground := Ground.phase }, { on := 13, ground := Ground.phase }, { on := 14, ground := Ground.phase }, { on := 15, ground := Ground.phase }], guard := none }) rfl (fun K hK => ?_) (AllReadyH.nil)
              go_simp
              rw [← HV2.out]
              refine hK.out _ _ (t2) (fun hHeld2 => ?_)
              clear hK K hHeld; have hHeld := hHeld2; clear hHeld2
              try simp only [Act.put, List.setIfInBounds_toArray, List.set_cons_zero, List.set_cons_succ]
              refine wpAnyH_done (by kernel_rfl) ?_ _
              clear hHeld
              go_wp2_with fail
              go_roundw
              case rel => exact ⟨k, by go_num, by omega, by omega, by rw [HV2.out, HV1b.out]; exact HE2.out, by rw [HV2.out, HV1b.out]; exact HO2.out, HLK.out⟩
              case measure => simp [intOf]
            · skip
              go_simp
              refine hK.out _ _ (t0) (fun hHeld2 => ?_)
              clear hK K hHeld; have hHeld := hHeld2; clear hHeld2
              try simp only [Act.put, List.setIfInBounds_toArray, List.set_cons_zero, List.set_cons_succ]
              refine wpAnyH_ready (rs := [9]) (by kernel_rfl) (by simp) ?_
              refine AllReadyH.cons (o := { dst := some 46, op := Op.load 3 (Operand.tmp 45), type := 3, pos := "zsortanyfunc.go:13", after := #[{ on := 8, ground := Ground.data }], guard := none }) rfl (fun K hK => ?_) (AllReadyH.nil)
              go_simp
              refine hK.out _ _ (t0) (fun hHeld2 => ?_)
              clear hK K hHeld; have hHeld := hHeld2; clear hHeld2
              try simp only [Act.put, List.setIfInBounds_toArray, List.set_cons_zero, List.set_cons_succ]
              refine wpAnyH_take (i := 14) (oi := { dst := some 51, op := Op.indexAddr 69 (Operand.tmp 37) (Operand.tmp 38), type := 0, pos := "zsortanyfunc.go:13", after := #[{ on := 0, ground := Ground.data }, { on := 1, ground := Ground.data }, { on := 0, ground := Ground.phase }, { on := 1, ground := Ground.phase }, { on := 2, ground := Ground.textOnly Departure.lateStores }, { on := 3, ground := Ground.textOnly Departure.lateStores }, { on := 4, ground := Ground.textOnly Departure.lateStores }, { on := 5, ground := Ground.phase }, { on := 6, ground := Ground.phase }, { on := 7, ground := Ground.phase }, { on := 8, ground := Ground.phase }, { on := 9, ground := Ground.phase }, { on := 10, ground := Ground.textOnly Departure.lateStores }, { on := 11, ground := Ground.textOnly Departure.lateStores }, { on := 12, ground := Ground.textOnly Departure.lateStoresUnsure }, { on := 13, ground := Ground.phase }], guard := none }) (v := ?_) rfl (by kernel_rfl) (by kernel_rfl) (by kernel_rfl) (fun _ _ _ h => h) (Or.inl ⟨by rfl, ?_⟩) hHeld ?_
              rotate_left
              · intro w hSw
                try dsimp only at hSw
                go_simp
                try with_reducible rfl
              try simp only [Act.put, List.setIfInBounds_toArray, List.set_cons_zero, List.set_cons_succ]
              refine wpAnyH_ready (rs := [15]) (by kernel_rfl) (by simp) ?_
              refine AllReadyH.cons (o := { dst := none, op := Op.store 3 (Operand.tmp 51) (Operand.tmp 46), type := 0, pos := "zsortanyfunc.go:13", after := #[{ on := 14, ground := Ground.data }, { on := 9, ground := Ground.data }, { on := 0, ground := Ground.phase }, { on := 1, ground := Ground.phase }, { on := 2, ground := Ground.textOnly Departure.lateStores }, { on := 3, ground := Ground.textOnly Departure.lateStores }, { on := 4, ground := Ground.textOnly Departure.lateStores }, { on := 5, ground := Ground.phase }, { on := 6, ground := Ground.phase }, { on := 7, ground := Ground.phase }, { on := 8, ground := Ground.phase }, { on := 9, ground := Ground.phase }, { on := 10, ground := Ground.textOnly Departure.lateStores }, { on := 11, ground := Ground.textOnly Departure.lateStores }, { on := 12, ground := Ground.textOnly Departure.lateStoresUnsure }, { on := 13, ground := Ground.phase }], guard := none }) rfl (fun K hK => ?_) (AllReadyH.nil)
              go_simp
              rw [← HV1.out]
              refine hK.out _ _ (t1) (fun hHeld2 => ?_)
              clear hK K hHeld; have hHeld := hHeld2; clear hHeld2
              try simp only [Act.put, List.setIfInBounds_toArray, List.set_cons_zero, List.set_cons_succ]
              refine wpAnyH_take (i := 16) (oi := { dst := some 52, op := Op.indexAddr 69 (Operand.tmp 39) (Operand.tmp 41), type := 0, pos := "zsortanyfunc.go:13", after := #[{ on := 2, ground := Ground.data }, { on := 4, ground := Ground.data }, { on := 0, ground := Ground.phase }, { on := 1, ground := Ground.phase }, { on := 2, ground := Ground.phase }, { on := 3, ground := Ground.phase }, { on := 4, ground := Ground.phase }, { on := 5, ground := Ground.phase }, { on := 6, ground := Ground.phase }, { on := 7, ground := Ground.phase }, { on := 8, ground := Ground.phase }, { on := 9, ground := Ground.phase }, { on := 10, ground := Ground.phase }, { on := 11, ground := Ground.phase }, { on := 12, ground := Ground.phase }, { on := 13, ground := Ground.phase }, { on := 14, ground := Ground.phase }, { on := 15, ground := Ground.phase }], guard := none }) (v := ?_) rfl (by kernel_rfl) (by kernel_rfl) (by kernel_rfl) (fun _ _ _ h => h) (Or.inl ⟨by rfl, ?_⟩) hHeld ?_
              rotate_left
              · intro w hSw
                try dsimp only at hSw
                go_simp
                try with_reducible rfl
              try simp only [Act.put, List.setIfInBounds_toArray, List.set_cons_zero, List.set_cons_succ]
              refine wpAnyH_ready (rs := [17]) (by kernel_rfl) (by simp) ?_
              refine AllReadyH.cons (o := { dst := none, op := Op.store 3 (Operand.tmp 52) (Operand.tmp 50), type := 0, pos := "zsortanyfunc.go:13", after := #[{ on := 16, ground := Ground.data }, { on := 13, ground := Ground.data }, { on := 15, ground := Ground.chain }, { on := 0, ground := Ground.phase }, { on := 1, ground := Ground.phase }, { on := 2, ground := Ground.phase }, { on := 3, ground := Ground.phase }, { on := 4, ground := Ground.phase }, { on := 5, ground := Ground.phase }, { on := 6, ground := Ground.phase }, { on := 7, ground := Ground.phase }, { on := 8, ground := Ground.phase }, { on := 9, ground := Ground.phase }, { on := 10, ground := Ground.phase }, { on := 11, ground := Ground.phase }, { on := 12, ground := Ground.phase }, { on := 13, ground := Ground.phase }, { on := 14, ground := Ground.phase }, { on := 15, ground := Ground.phase }], guard := none }) rfl (fun K hK => ?_) (AllReadyH.nil)
              go_simp
              rw [← HV2.out]
              refine hK.out _ _ (t2) (fun hHeld2 => ?_)
              clear hK K hHeld; have hHeld := hHeld2; clear hHeld2
              try simp only [Act.put, List.setIfInBounds_toArray, List.set_cons_zero, List.set_cons_succ]
              refine wpAnyH_done (by kernel_rfl) ?_ _
              clear hHeld
              go_wp2_with fail
              go_roundw
              case rel => exact ⟨k, by go_num, by omega, by omega, by rw [HV2.out, HV1b.out]; exact HE2.out, by rw [HV2.out, HV1b.out]; exact HO2.out, HLK.out⟩
              case measure => simp [intOf]
          · have f0 := lt0_no hf
            have hlk : Lt far (b k) (b i) := .of_not hf hvl
            have HX := Lib.hid (fun wx e oo => HDN.out (fun q q1 q2 => by
              by_cases e : q = k
              · rw [e]; exact hlk
              · exact (HS.out q k q1 (by omega) (by omega)).trans hlk) wx e oo)
            clear HDN
            generalize far (b i) = fi at *
            generalize far (b k) = fk at *
            generalize cmpV fi fk = cv at *
            go_upto_region 4 with fail
            go_quiet ((go_at_call 75; exact Calls.quiet_of (hcm _)))
            go_wp2_with fail
            go_roundw
            case rel => exact HX.out _ (hE.drewN _) (only_drewN hO _)
            case measure => simp [intOf]; omega
    · have hlt' : ¬ (i : Int) < (hi : Int) := by omega
      have HR := Lib.hid (show SoP gO gT gF n far lo hi a W (.returned (.tuple #[])) wr from ⟨rfl, b, hE, hO, by
        rcases hi2 with q | q
        · obtain rfl : i = hi := by omega
          exact HP.out
        · by_cases e : i = hi
          · rw [← e]; exact HP.out
          · obtain rfl : hi = lo := by omega
            rw [q] at HP; exact HP.out.narrow, fun x y x1 xy y2 => HS.out x y x1 xy (by omega)⟩)
      go_wp2_with fail
      go_end0
      exact HR.out
end Go.Proofs.Ytoiccljmdplfgaa.So
