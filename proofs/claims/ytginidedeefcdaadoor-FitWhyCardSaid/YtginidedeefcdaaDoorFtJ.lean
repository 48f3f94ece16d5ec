/-
  FitWhy, WALKED.
-/
import Derived.Test.YtginidedeefcdaaDoorFtV
import Derived.Test.YtginidedeefcdaaDoorFtK
namespace Go.Proofs.YtginidedeefcdaaDoor.Ft
open Go.ChangeShapes Go.WideShapes Go.ChangeAt Go.RowKit
open Go.Proofs.YtginidedeefcdaaDoor
open Go.Proofs.YtginidedeefcdaaDoor.Wd
open Go.Proofs.YtginidedeefcdaaDoor.Rec
open Go.Proofs.YtginidedeefcdaaDoor.Yr
open Go.Proofs.YtginidedeefcdaaDoor.Tb
open Go.Proofs.YtginidedeefcdaaDoor.Clk (yrV yrE)
open Go.Proofs.YtginidedeefcdaaDoor.Civ (Tab Inv)
set_option linter.unusedVariables false
set_option linter.unusedSimpArgs false
set_option maxRecDepth 100000 in
set_option maxHeartbeats 6400000 in
theorem why_long (A : Option Addr) (n cp : Nat) (Y : Int) (w : World) (hT : Tab w) (hm : n ≤ maxLen) (hn : (100 : Int) < (n : Int)) :
    Calls Tryd.prog 4 #[.slice A n cp, .int .i64 Y] w fun e w' => e = .returned (.bool true) ∧ Below w.heap.size w w' := by
  have i0 := Inv.start hT
  unfold maxLen at hm
  go_enter Tryd.func4, Tryd.ntmps4
  go_wp2_with fail
  refine (lives_any _ hT).mono ?_; rintro e w1 ⟨rfl, hb1⟩
  have i1 := i0.call hb1
  go_wp2_with fail
  go_ret
  exact ⟨rfl, i1.2⟩
set_option maxRecDepth 100000 in
set_option maxHeartbeats 6400000 in
theorem why_err (A : Option Addr) (n cp : Nat) (l : List Sp) (Y : Int) (w : World) (hT : Tab w) (hs : Spans w w.heap.size A n l) (hm : n ≤ maxLen) (hn : ¬ (100 : Int) < (n : Int)) (E : Int) (hE : E ≠ 0)
    (r : Rc) (hfy : ∀ w, Tab w → Spans w w.heap.size A n l → Calls Tryd.prog 13 #[.slice A n cp, .int .i64 Y] w fun e w' => e = .returned (.tuple #[r.V, .int .u8 0, .int .i64 E]) ∧ Below w.heap.size w w')
    :
    Calls Tryd.prog 4 #[.slice A n cp, .int .i64 Y] w fun e w' => e = .returned (.bool true) ∧ Below w.heap.size w w' := by
  have i0 := Inv.start hT
  unfold maxLen at hm
  have hEb : (E != 0) = true := by rw [bne_iff_ne]; exact hE
  go_enter Tryd.func4, Tryd.ntmps4
  go_wp2_with fail
  refine (lives_any _ hT).mono ?_; rintro e w1 ⟨rfl, hb1⟩
  have i1 := i0.call hb1
  go_wp2_with fail
  refine (hfy _ i1.1 ((hs.below i1.2).more i1.2.size)).mono ?_; rintro e w2 ⟨rfl, hb2⟩
  have i2 := (i1.call hb2).alloc (.cells r.A 28)
  go_wp2_with (refine wpList_store_new rfl 28 _ _ rfl rfl w2.heap.size r.A rfl rfl _ #[.int .i32 0, .int .i32 0, .int .i32 0, .int .u16 0, .int .u16 0, .int .u16 0, .int .u16 0, .int .u16 0, .int .u16 0, .int .u16 0, .int .u16 0, .int .u16 0, .int .u16 0, .int .u16 0, .int .u16 0, .int .u16 0, .int .u16 0, .int .u16 0, .int .u16 0] w2 rfl rfl rfl (by kernel_rfl) (by kernel_rfl) ?_)
  go_ret
  exact ⟨rfl, i2.2⟩
set_option maxRecDepth 100000 in
set_option maxHeartbeats 6400000 in
theorem why_main (A : Option Addr) (n cp : Nat) (l : List Sp) (Y : Int) (w : World) (hT : Tab w) (hs : Spans w w.heap.size A n l) (hm : n ≤ maxLen) (hn : ¬ (100 : Int) < (n : Int)) (v : Int) (hY1 : 1601 ≤ Y) (hY2 : Y ≤ 9999) (hlk : lkE l = 0)
    (hlaw : (v = 0 ∧ kM l n = false ∧ kF l n = false ∧ kS l n = false ∧ kD l Y n = false ∧ n ≤ 3) ∨ (v = 1 ∧ kM l n = true) ∨ (v = 2 ∧ kM l n = false ∧ kF l n = true) ∨ (v = 3 ∧ kM l n = false ∧ kF l n = false ∧ 3 < n) ∨ (v = 4 ∧ kS l n = true ∧ n ≤ 3) ∨ (v = 5 ∧ kS l n = false ∧ kD l Y n = true ∧ n ≤ 3))
    (r : Rc) (hfy : ∀ w, Tab w → Spans w w.heap.size A n l → Calls Tryd.prog 13 #[.slice A n cp, .int .i64 Y] w fun e w' => e = .returned (.tuple #[r.V, .int .u8 v, .int .i64 0]) ∧ Below w.heap.size w w')
    :
    Calls Tryd.prog 4 #[.slice A n cp, .int .i64 Y] w fun e w' => e = .returned (.bool true) ∧ Below w.heap.size w w' := by
  have i0 := Inv.start hT
  unfold maxLen at hm
  have HL := Lib.hid hs.1
  have HLAW := Lib.hid hlaw; clear hlaw
  have HX := Lib.hid hlk; clear hlk
  go_enter Tryd.func4, Tryd.ntmps4
  go_wp2_with fail
  refine (lives_any _ hT).mono ?_; rintro e w1 ⟨rfl, hb1⟩
  have i1 := i0.call hb1
  go_wp2_with fail
  refine (hfy _ i1.1 ((hs.below i1.2).more i1.2.size)).mono ?_; rintro e w2 ⟨rfl, hb2⟩
  have i2 := (i1.call hb2).alloc (.cells r.A 28)
  go_wp2_with (refine wpList_store_new rfl 28 _ _ rfl rfl w2.heap.size r.A rfl rfl _ #[.int .i32 0, .int .i32 0, .int .i32 0, .int .u16 0, .int .u16 0, .int .u16 0, .int .u16 0, .int .u16 0, .int .u16 0, .int .u16 0, .int .u16 0, .int .u16 0, .int .u16 0, .int .u16 0, .int .u16 0, .int .u16 0, .int .u16 0, .int .u16 0, .int .u16 0] w2 rfl rfl rfl (by kernel_rfl) (by kernel_rfl) ?_)
  have hbx := (Below.refl w2.heap.size w2).alloc (Nat.le_refl _) (.cells r.A 28)
  refine (check_any A n cp l _ ((hs.below i2.2).more i2.2.size) (by unfold maxLen; omega)).mono ?_; rintro e w3 ⟨rfl, hb3⟩
  have i3 := i2.call hb3
  rw [HX.out]
  clear i0 i1 i2 hb1 hb2 hb3 hbx hfy hT
  go_wp2_with fail
  go_loopw [42, 8, 9, 10, 11] (fun i m f s d wr => ∃ k : Nat, i = .int .i64 k ∧ k ≤ n ∧ m = .bool (kM l k) ∧ f = .bool (kF l k) ∧ s = .bool (kS l k) ∧ d = .bool (kD l Y k) ∧ Inv w wr) (fun i _ _ _ _ _ => n - (intOf i).toNat)
  case atStart => exact ⟨0, rfl, Nat.zero_le _, rfl, rfl, rfl, rfl, i3⟩
  case round =>
    clear i3
    obtain ⟨k, rfl, hk, rfl, rfl, rfl, rfl, hi⟩ := hrel
    by_cases hlt : k < n
    · have hlt' : (k : Int) < (n : Int) := by omega
      obtain ⟨ad, rfl, r1⟩ := (hs.below hi.2).row hlt
      have eM := Lib.hid (show kM l (k + 1) = (kM l k || minP l k) from anyK_succ _ k)
      have eF := Lib.hid (show kF l (k + 1) = (kF l k || farP l k) from anyK_succ _ k)
      have eS := Lib.hid (show kS l (k + 1) = (kS l k || anyK (shiP l k) n) by rw [← HL.out]; exact anyK_succ _ k)
      have eD := Lib.hid (show kD l Y (k + 1) = (kD l Y k || datP l Y k) from anyK_succ _ k)
      obtain ⟨a, eA⟩ : ∃ a, at_ l k = a := ⟨_, rfl⟩
      rw [eA] at r1
      have EA := Lib.hid eA; clear eA
      go_upto_region 14 with (refine wpList_at_g rfl 40 _ rfl w.heap.size _ (Sp.A a) rfl _ r1 Tryd.underlying40 rfl (by kernel_rfl) ?_)
      have hz := Blk.new wr 40 (Sp.A a)
      have hj := hi.alloc (.cells (Sp.A a) 40)
      have hsz := hj.2.size
      clear r1 hi
      generalize wr.alloc (.cells (Sp.A a) 40) = W at *
      generalize wr.heap.size = gz at *
      have c1 : W.cell? ⟨gz, 1, none⟩ = some (.int .i64 a.o) := hz.cell 1
      go_cut [8] (fun m wx => m = .bool (kM l (k + 1)) ∧ wx = W)
      case first =>
        cases hq : kM l k with
        | true =>
          have hE : kM l (k + 1) = true := by rw [eM.out, hq]; rfl
          go_wp2_with fail
          go_meet
          exact ⟨by rw [hE], rfl⟩
        | false =>
          by_cases ho : a.o % 60 = 0
          · have t1 := tm60.2 ho
            have hE : kM l (k + 1) = false := by rw [eM.out, hq]; unfold minP; rw [EA.out]; simpa using ho
            go_wp2_with fail
            go_meet
            exact ⟨by rw [hE], rfl⟩
          · have t1 := tm60.1 ho
            have hE : kM l (k + 1) = true := by rw [eM.out, hq]; unfold minP; rw [EA.out]; simpa using ho
            go_wp2_with fail
            go_meet
            exact ⟨by rw [hE], rfl⟩
      case rest =>
        obtain ⟨rfl, rfl⟩ := hcut
        go_upto_region 15 with fail
        go_cut [9] (fun m wx => m = .bool (kF l (k + 1)) ∧ wx = wc)
        case first =>
          cases hq : kF l k with
          | true =>
            have hE : kF l (k + 1) = true := by rw [eF.out, hq]; rfl
            go_wp2_with fail
            go_meet
            exact ⟨by rw [hE], rfl⟩
          | false =>
            have h3 : 86400 < a.o ∨ (¬ 86400 < a.o ∧ a.o < -86400) ∨ (¬ 86400 < a.o ∧ ¬ a.o < -86400) := by omega
            rcases h3 with q1 | ⟨q1, q2⟩ | ⟨q1, q2⟩
            · have hE : kF l (k + 1) = true := by rw [eF.out, hq]; unfold farP; rw [EA.out]; simp; omega
              go_wp2_with fail
              go_meet
              exact ⟨by rw [hE], rfl⟩
            · have hE : kF l (k + 1) = true := by rw [eF.out, hq]; unfold farP; rw [EA.out]; simp; omega
              go_wp2_with fail
              go_meet
              exact ⟨by rw [hE], rfl⟩
            · have hE : kF l (k + 1) = false := by rw [eF.out, hq]; unfold farP; rw [EA.out]; simp; omega
              go_wp2_with fail
              go_meet
              exact ⟨by rw [hE], rfl⟩
        case rest =>
          obtain ⟨rfl, rfl⟩ := hcut
          go_wp2_with fail
          go_loopw [67, 10] (fun j s wy => ∃ q : Nat, j = .int .i64 q ∧ q ≤ n ∧ s = .bool (kS l k || anyK (shiP l k) q) ∧ Inv w wy ∧ Blk wy gz 40 (Sp.A a)) (fun j _ _ => n - (intOf j).toNat)
          case atStart => exact ⟨0, rfl, Nat.zero_le _, by rw [anyK_zero, Bool.or_false], hj, hz⟩
          case round =>
            clear hj hz hsz c1
            obtain ⟨q, rfl, hq, rfl, hi, hz⟩ := hrel
            by_cases hlq : q < n
            · have hlq' : (q : Int) < (n : Int) := by omega
              obtain ⟨ad', e, r2⟩ := (hs.below hi.2).row hlq
              obtain rfl : ad = ad' := Option.some.inj e
              have eQ := Lib.hid (show anyK (shiP l k) (q + 1) = (anyK (shiP l k) q || shiP l k q) from anyK_succ _ q)
              obtain ⟨b, eB⟩ : ∃ b, at_ l q = b := ⟨_, rfl⟩
              rw [eB] at r2
              have hp := Lib.hid (show shiP l k q = shfP a b by unfold shiP; rw [EA.out, eB])
              clear eB
              go_upto_region 19 with (refine wpList_at_g rfl 40 _ rfl w.heap.size _ (Sp.A b) rfl _ r2 Tryd.underlying40 rfl (by kernel_rfl) ?_)
              have hy := Blk.new wr 40 (Sp.A b)
              have hj := hi.alloc (.cells (Sp.A b) 40)
              have hz2 := hz.alloc (.cells (Sp.A b) 40)
              clear r2 hi hz
              generalize wr.alloc (.cells (Sp.A b) 40) = W2 at *
              generalize wr.heap.size = gy at *
              generalize hs1 : (kS l k || anyK (shiP l k) q) = s1 at *
              have hE : (kS l k || anyK (shiP l k) (q + 1)) = (s1 || shfP a b) := by rw [eQ.out, hp.out, ← Bool.or_assoc, hs1]
              obtain ⟨af, ao, adb⟩ := a
              obtain ⟨bf, bo, bd⟩ := b
              have c1 : W2.cell? ⟨gz, 1, none⟩ = some (.int .i64 ao) := hz2.cell 1
              have c2 : W2.cell? ⟨gz, 2, none⟩ = some (.bool adb) := hz2.cell 2
              have d1 : W2.cell? ⟨gy, 1, none⟩ = some (.int .i64 bo) := hy.cell 1
              have d2 : W2.cell? ⟨gy, 2, none⟩ = some (.bool bd) := hy.cell 2
              cases s1 with
              | true =>
                go_wp2_with fail
                go_roundw
                case rel => exact ⟨q + 1, by go_num, by omega, by rw [hE]; rfl, hj, hz2⟩
                case measure => simp [intOf]; omega
              | false =>
                by_cases heo : ao = bo
                · subst heo
                  have hne : (ao != ao) = false := by simp
                  have hE2 : shfP ⟨af, ao, adb⟩ ⟨bf, ao, bd⟩ = false := by unfold shfP; simp
                  have hE3 := Lib.hid (hE.trans (by rw [hE2]; rfl : _ = false)); clear hE hE2
                  cases adb <;> cases bd
                  all_goals
                    go_wp2_with fail
                    go_roundw
                    case rel => exact ⟨q + 1, by go_num, by omega, by rw [hE3.out], hj, hz2⟩
                    case measure => simp [intOf]; omega
                · have hne : (ao != bo) = true := by rw [bne_iff_ne]; exact heo
                  have hE2 : shfP ⟨af, ao, adb⟩ ⟨bf, bo, bd⟩ = (adb == bd) := by unfold shfP; simp only [hne, Bool.and_true]
                  have hE3 := Lib.hid (hE.trans (by rw [hE2]; rfl : _ = (adb == bd))); clear hE hE2
                  cases adb <;> cases bd
                  all_goals
                    go_wp2_with fail
                    go_roundw
                    case rel => exact ⟨q + 1, by go_num, by omega, by rw [hE3.out]; rfl, hj, hz2⟩
                    case measure => simp [intOf]; omega
            · have hlq' : ¬ (q : Int) < (n : Int) := by omega
              obtain rfl : q = n := by omega
              rw [← eS.out]
              have c0 : wr.cell? ⟨gz, 0, none⟩ = some (.int .i64 a.f) := hz.cell 0
              have hsz := hi.2.size
              cases k with
              | zero =>
                have hE : kD l Y 1 = kD l Y 0 := by rw [eD.out]; unfold datP; simp
                go_wp2_with fail
                go_roundw
                case rel => exact ⟨1, by go_num, by omega, rfl, rfl, rfl, by rw [hE], hi⟩
                case measure => simp [intOf]; omega
              | succ m =>
                obtain ⟨ad', e, r2⟩ := (hs.below hi.2).row (k := m) (by omega)
                obtain rfl : ad = ad' := Option.some.inj e
                obtain ⟨b, eB⟩ : ∃ b, at_ l m = b := ⟨_, rfl⟩
                rw [eB] at r2
                obtain ⟨q20, q21, q22, q23, q24⟩ := SpAt.of r2
                have eC := Lib.hid (show ccW l (m + 1) = IntKind.i64.wrap (a.f + b.o) by unfold ccW; rw [EA.out, show m + 1 - 1 = m from rfl, eB])
                clear eB r2
                have hwr : -9223372036854775808 ≤ ccW l (m + 1) ∧ ccW l (m + 1) ≤ 9223372036854775807 := by rw [eC.out]; simp [IntKind.wrap, IntKind.bits, IntKind.signed]; omega
                have hsub : IntKind.i64.wrap (m : Int) = (m : Int) := by simp [IntKind.wrap, IntKind.bits, IntKind.signed]; omega
                have hsum : IntKind.i64.wrap (a.f + b.o) = ccW l (m + 1) := eC.out.symm
                have ED := Lib.hid (show datP l Y (m + 1) = datQ Y (ccW l (m + 1)) by unfold datP; simp)
                clear eC
                generalize ccW l (m + 1) = C at *
                have hyr := fun w => Clk.year_any C w hwr.1 hwr.2
                have hbg := fun w => begin_any (Y + 1) w (by omega) (by omega)
                have i1 : (0 : Int) ≤ (m : Int) + 1 := by omega
                have i2 : ((m : Int) + 1).toNat = m + 1 := by omega
                have i3 : (0 : Int) ≤ (m : Int) := by omega
                have i4 : (m : Int) < (q : Int) := by omega
                have i5 : (0 : Int) < (m : Int) + 1 := by omega
                go_wp2_with fail
                go_quiet ((go_at_call 0))
                go_wp2_with fail
                refine (hyr _).mono ?_; rintro e w5 ⟨rfl, hb5⟩
                have hv := (hi.drewN _).call hb5
                go_wp2_with fail
                refine (hbg _).mono ?_; rintro e w6 ⟨rfl, rfl⟩
                clear q20 q21 q22 q23 q24 hsub hsum c0 hyr hbg hz
                generalize hs1 : kD l Y (m + 1) = s1 at *
                have hE : kD l Y (m + 1 + 1) = (s1 || datQ Y C) := by rw [eD.out, ED.out]
                unfold datQ at hE
                cases s1 with
                | true =>
                  go_wp2_with fail
                  go_roundw
                  case rel => exact ⟨m + 1 + 1, by go_num, by omega, rfl, rfl, rfl, by rw [hE]; rfl, hv⟩
                  case measure => simp [intOf]; omega
                | false =>
                  cases x1 : (C != begY (Y + 1)) with
                  | false =>
                    rw [x1] at hE
                    go_wp2_with fail
                    go_roundw
                    case rel => exact ⟨m + 1 + 1, by go_num, by omega, rfl, rfl, rfl, by rw [hE]; rfl, hv⟩
                    case measure => simp [intOf]; omega
                  | true =>
                    cases x2 : (yrE C != 0) with
                    | true =>
                      rw [x1, x2] at hE
                      go_wp2_with fail
                      go_roundw
                      case rel => exact ⟨m + 1 + 1, by go_num, by omega, rfl, rfl, rfl, by rw [hE]; rfl, hv⟩
                      case measure => simp [intOf]; omega
                    | false =>
                      cases x3 : (yrV C != Y) with
                      | true =>
                        rw [x1, x2, x3] at hE
                        go_wp2_with fail
                        go_roundw
                        case rel => exact ⟨m + 1 + 1, by go_num, by omega, rfl, rfl, rfl, by rw [hE]; rfl, hv⟩
                        case measure => simp [intOf]; omega
                      | false =>
                        rw [x1, x2, x3] at hE
                        go_wp2_with fail
                        go_roundw
                        case rel => exact ⟨m + 1 + 1, by go_num, by omega, rfl, rfl, rfl, by rw [hE]; rfl, hv⟩
                        case measure => simp [intOf]; omega
    · have hlt' : ¬ (k : Int) < (n : Int) := by omega
      obtain rfl : k = n := by omega
      rcases HLAW.out with ⟨rfl, a1, a2, a3, a4, a5⟩ | ⟨rfl, a1⟩ | ⟨rfl, a1, a2⟩ | ⟨rfl, a1, a2, a3⟩ | ⟨rfl, a1, a2⟩ | ⟨rfl, a1, a2, a3⟩
      · rw [a1, a2, a3, a4]
        have a6 : (k : Int) ≤ 3 := by omega
        go_wp2_with fail
        go_ret
        exact ⟨rfl, hi.2⟩
      · rw [a1]
        go_wp2_with fail
        go_ret
        exact ⟨rfl, hi.2⟩
      · rw [a1, a2]
        go_wp2_with fail
        go_ret
        exact ⟨rfl, hi.2⟩
      · rw [a1, a2]
        have a6 : (3 : Int) < (k : Int) := by omega
        go_wp2_with fail
        go_ret
        exact ⟨rfl, hi.2⟩
      · rw [a1]
        have a6 : (k : Int) ≤ 3 := by omega
        go_wp2_with fail
        go_ret
        exact ⟨rfl, hi.2⟩
      · rw [a1, a2]
        have a6 : (k : Int) ≤ 3 := by omega
        go_wp2_with fail
        go_ret
        exact ⟨rfl, hi.2⟩
theorem whyl_any (A : Option Addr) (n cp : Nat) (l : List Sp) (Y : Int) (w : World) (hT : Tab w) (hs : Spans w w.heap.size A n l) (hm : n ≤ maxLen) (hnc : n ≤ cp) :
    Calls Tryd.prog 4 #[.slice A n cp, .int .i64 Y] w fun e w' => e = .returned (.bool true) ∧ Below w.heap.size w w' := by
  by_cases hn : (100 : Int) < (n : Int)
  · exact why_long A n cp Y w hT hm hn
  have hfy := fun w hT hs => year_any A n cp l Y w hT hs hm hnc
  have hln := hs.1
  cases hY : inY Y with
  | false =>
    have e3 : fyE l Y = 1 := by unfold fyE; rw [hY, if_pos rfl]
    have e2 : fyW l Y = 0 := by unfold fyW; rw [hY]; rfl
    rw [e2, e3] at hfy
    exact why_err A n cp l Y w hT hs hm hn 1 (by decide) _ hfy
  | true =>
    have hYY := of_decide_eq_true hY
    cases hr : rgB l Y with
    | false =>
      have e3 : fyE l Y = 2 := by unfold fyE; rw [hY, hr, if_neg (by decide), if_pos rfl]
      have e2 : fyW l Y = 0 := by unfold fyW; rw [hY, hr]; rfl
      rw [e2, e3] at hfy
      exact why_err A n cp l Y w hT hs hm hn 2 (by decide) _ hfy
    | true =>
      have e3 : fyE l Y = 0 := by unfold fyE; rw [hY, hr]; rfl
      have e2 : fyW l Y = whyV l (begY Y) (begY (Y + 1)) := by unfold fyW; rw [hY, hr]; rfl
      rw [e2, e3] at hfy
      have hlk : lkE l = 0 := by
        unfold lkE
        have := hr
        unfold rgB at this
        rw [Bool.and_eq_true] at this
        rw [this.1]; rfl
      have hlaw := why_law hYY.1 hYY.2 hr (rfl : whyV l (begY Y) (begY (Y + 1)) = _)
      rw [hln] at hlaw
      exact why_main A n cp l Y w hT hs hm hn _ hYY.1 hYY.2 hlk hlaw _ hfy
end Go.Proofs.YtginidedeefcdaaDoor.Ft
