/-
  THE DOCUMENT'S CHECKS OF RULES, walked: that they answer.
-/
import Derived.Test.YtoklcbkphipmkaaDoorOcB
import Derived.Laws.BytesString
import Derived.Deep.RegionHeld3
import Derived.BigQuiet
namespace Go.Proofs.YtoklcbkphipmkaaDoor.Nv
open Go.ChangeShapes Go.WideShapes Go.ChangeAt Go.RowKit
open Go.Proofs.YtoklcbkphipmkaaDoor
open Go.Proofs.YtoklcbkphipmkaaDoor.Wd
set_option linter.unusedVariables false
set_option linter.unusedSimpArgs false
set_option maxRecDepth 20000 in
set_option maxHeartbeats 6400000 in
theorem rname_any (s : ByteArray) (w : World) (hs : s.size ≤ maxLen) :
    Calls Tryd.prog 38 #[.string s] w fun e w' => e = .returned (.bool (nmB s)) ∧ w' = w := by
  unfold maxLen at hs
  by_cases hlen : 1 ≤ s.size ∧ s.size ≤ 64
  rotate_left
  · have hE := Lib.hid (nm_len hlen)
    rcases (show (s.size : Int) < 1 ∨ (¬ (s.size : Int) < 1 ∧ (64 : Int) < (s.size : Int)) by omega) with g | ⟨g, g2⟩
    · clear hlen
      go_enter Tryd.func38, Tryd.ntmps38
      go_wp2_with fail
      go_ret
      exact ⟨by rw [hE.out]; rfl, rfl⟩
    · clear hlen
      go_enter Tryd.func38, Tryd.ntmps38
      go_wp2_with fail
      go_ret
      exact ⟨by rw [hE.out]; rfl, rfl⟩
  have HY := Lib.hid (fun h => nm_yes hlen h)
  go_enter Tryd.func38, Tryd.ntmps38
  go_wp2_with fail
  go_loop [3] (fun i => ∃ k : Nat, i = .int .i64 k ∧ k ≤ s.size ∧ (∀ j, j < k → okC j (chr s j) = true)) (fun i => s.size - (intOf i).toNat)
  case atStart => exact ⟨0, rfl, Nat.zero_le _, fun _ h => absurd h (Nat.not_lt_zero _)⟩
  case round =>
    obtain ⟨k, rfl, hk, hall⟩ := hrel
    have HA := Lib.hid hall; clear hall
    by_cases hlt : k < s.size
    · have hlt' : (k : Int) < (s.size : Int) := by omega
      have HNo := Lib.hid (fun h => nm_no hlt h)
      have HYs := Lib.hid (fun (h : okC k (chr s k) = true) j (hj : j < k + 1) => (show okC j (chr s j) = true by
        by_cases e : j = k
        · rw [e]; exact h
        · exact HA.out j (by omega)))
      obtain ⟨z0, z1⟩ := chr_bd s k
      have hz := chr_at hlt
      rw [← hz] at HNo HYs z0 z1
      clear hz HA HY
      rcases (show ((s[k].toNat : Int) ≤ 42) ∨ ((s[k].toNat : Int) = 43) ∨ ((s[k].toNat : Int) = 44) ∨ ((s[k].toNat : Int) = 45) ∨ ((s[k].toNat : Int) = 46) ∨ ((s[k].toNat : Int) = 47) ∨ (48 ≤ (s[k].toNat : Int) ∧ (s[k].toNat : Int) ≤ 57) ∨ (58 ≤ (s[k].toNat : Int) ∧ (s[k].toNat : Int) ≤ 64) ∨ (65 ≤ (s[k].toNat : Int) ∧ (s[k].toNat : Int) ≤ 90) ∨ (91 ≤ (s[k].toNat : Int) ∧ (s[k].toNat : Int) ≤ 94) ∨ ((s[k].toNat : Int) = 95) ∨ ((s[k].toNat : Int) = 96) ∨ (97 ≤ (s[k].toNat : Int) ∧ (s[k].toNat : Int) ≤ 122) ∨ (123 ≤ (s[k].toNat : Int)) by omega) with g | g | g | g | g | g | g | g | g | g | g | g | g | g
      · -- z ≤ 42
        have : ¬ 97 ≤ (s[k].toNat : Int) := by omega
        have : (s[k].toNat : Int) ≤ 122 := by omega
        have : ¬ 65 ≤ (s[k].toNat : Int) := by omega
        have : (s[k].toNat : Int) ≤ 90 := by omega
        have : ¬ 48 ≤ (s[k].toNat : Int) := by omega
        have : (s[k].toNat : Int) ≤ 57 := by omega
        have : ((s[k].toNat : Int) == 95) = false := by simp; omega
        have : ((s[k].toNat : Int) == 43) = false := by simp; omega
        have : ((s[k].toNat : Int) == 45) = false := by simp; omega
        have : ((s[k].toNat : Int) == 47) = false := by simp; omega
        have hE := Lib.hid (HNo.out (by unfold okC; simp; omega))
        clear HYs HNo g
        go_wp2_with fail
        all_goals
          go_ret
          exact ⟨by rw [hE.out]; rfl, rfl⟩
      · -- z = 43
        have : ¬ 97 ≤ (s[k].toNat : Int) := by omega
        have : (s[k].toNat : Int) ≤ 122 := by omega
        have : ¬ 65 ≤ (s[k].toNat : Int) := by omega
        have : (s[k].toNat : Int) ≤ 90 := by omega
        have : ¬ 48 ≤ (s[k].toNat : Int) := by omega
        have : (s[k].toNat : Int) ≤ 57 := by omega
        have : ((s[k].toNat : Int) == 95) = false := by simp; omega
        have : ((s[k].toNat : Int) == 43) = true := by simp; omega
        have : ((s[k].toNat : Int) == 45) = false := by simp; omega
        have : ((s[k].toNat : Int) == 47) = false := by simp; omega
        by_cases hk0 : k = 0
        · have hE := Lib.hid (HNo.out (by unfold okC; rw [decide_eq_false (show ¬ k ≠ 0 by omega), Bool.and_false, Bool.or_false]; exact decide_eq_false (by omega)))
          have hkb : ((k : Int) == 0) = true := by simp [hk0]
          clear HYs HNo g hk0
          go_wp2_with fail
          go_ret
          exact ⟨by rw [hE.out]; rfl, rfl⟩
        · have hY := Lib.hid (HYs.out (by unfold okC; simp [hk0]; omega))
          have hkb : ((k : Int) == 0) = false := by simp [hk0]
          clear HYs HNo g hk0
          go_wp2_with fail
          go_round
          case rel => exact ⟨k + 1, by go_num, by omega, hY.out⟩
          case measure => simp [intOf]; omega
      · -- z = 44
        have : ¬ 97 ≤ (s[k].toNat : Int) := by omega
        have : (s[k].toNat : Int) ≤ 122 := by omega
        have : ¬ 65 ≤ (s[k].toNat : Int) := by omega
        have : (s[k].toNat : Int) ≤ 90 := by omega
        have : ¬ 48 ≤ (s[k].toNat : Int) := by omega
        have : (s[k].toNat : Int) ≤ 57 := by omega
        have : ((s[k].toNat : Int) == 95) = false := by simp; omega
        have : ((s[k].toNat : Int) == 43) = false := by simp; omega
        have : ((s[k].toNat : Int) == 45) = false := by simp; omega
        have : ((s[k].toNat : Int) == 47) = false := by simp; omega
        have hE := Lib.hid (HNo.out (by unfold okC; simp; omega))
        clear HYs HNo g
        go_wp2_with fail
        all_goals
          go_ret
          exact ⟨by rw [hE.out]; rfl, rfl⟩
      · -- z = 45
        have : ¬ 97 ≤ (s[k].toNat : Int) := by omega
        have : (s[k].toNat : Int) ≤ 122 := by omega
        have : ¬ 65 ≤ (s[k].toNat : Int) := by omega
        have : (s[k].toNat : Int) ≤ 90 := by omega
        have : ¬ 48 ≤ (s[k].toNat : Int) := by omega
        have : (s[k].toNat : Int) ≤ 57 := by omega
        have : ((s[k].toNat : Int) == 95) = false := by simp; omega
        have : ((s[k].toNat : Int) == 43) = false := by simp; omega
        have : ((s[k].toNat : Int) == 45) = true := by simp; omega
        have : ((s[k].toNat : Int) == 47) = false := by simp; omega
        by_cases hk0 : k = 0
        · have hE := Lib.hid (HNo.out (by unfold okC; rw [decide_eq_false (show ¬ k ≠ 0 by omega), Bool.and_false, Bool.or_false]; exact decide_eq_false (by omega)))
          have hkb : ((k : Int) == 0) = true := by simp [hk0]
          clear HYs HNo g hk0
          go_wp2_with fail
          go_ret
          exact ⟨by rw [hE.out]; rfl, rfl⟩
        · have hY := Lib.hid (HYs.out (by unfold okC; simp [hk0]; omega))
          have hkb : ((k : Int) == 0) = false := by simp [hk0]
          clear HYs HNo g hk0
          go_wp2_with fail
          go_round
          case rel => exact ⟨k + 1, by go_num, by omega, hY.out⟩
          case measure => simp [intOf]; omega
      · -- z = 46
        have : ¬ 97 ≤ (s[k].toNat : Int) := by omega
        have : (s[k].toNat : Int) ≤ 122 := by omega
        have : ¬ 65 ≤ (s[k].toNat : Int) := by omega
        have : (s[k].toNat : Int) ≤ 90 := by omega
        have : ¬ 48 ≤ (s[k].toNat : Int) := by omega
        have : (s[k].toNat : Int) ≤ 57 := by omega
        have : ((s[k].toNat : Int) == 95) = false := by simp; omega
        have : ((s[k].toNat : Int) == 43) = false := by simp; omega
        have : ((s[k].toNat : Int) == 45) = false := by simp; omega
        have : ((s[k].toNat : Int) == 47) = false := by simp; omega
        have hE := Lib.hid (HNo.out (by unfold okC; simp; omega))
        clear HYs HNo g
        go_wp2_with fail
        all_goals
          go_ret
          exact ⟨by rw [hE.out]; rfl, rfl⟩
      · -- z = 47
        have : ¬ 97 ≤ (s[k].toNat : Int) := by omega
        have : (s[k].toNat : Int) ≤ 122 := by omega
        have : ¬ 65 ≤ (s[k].toNat : Int) := by omega
        have : (s[k].toNat : Int) ≤ 90 := by omega
        have : ¬ 48 ≤ (s[k].toNat : Int) := by omega
        have : (s[k].toNat : Int) ≤ 57 := by omega
        have : ((s[k].toNat : Int) == 95) = false := by simp; omega
        have : ((s[k].toNat : Int) == 43) = false := by simp; omega
        have : ((s[k].toNat : Int) == 45) = false := by simp; omega
        have : ((s[k].toNat : Int) == 47) = true := by simp; omega
        by_cases hk0 : k = 0
        · have hE := Lib.hid (HNo.out (by unfold okC; rw [decide_eq_false (show ¬ k ≠ 0 by omega), Bool.and_false, Bool.or_false]; exact decide_eq_false (by omega)))
          have hkb : ((k : Int) == 0) = true := by simp [hk0]
          clear HYs HNo g hk0
          go_wp2_with fail
          go_ret
          exact ⟨by rw [hE.out]; rfl, rfl⟩
        · have hY := Lib.hid (HYs.out (by unfold okC; simp [hk0]; omega))
          have hkb : ((k : Int) == 0) = false := by simp [hk0]
          clear HYs HNo g hk0
          go_wp2_with fail
          go_round
          case rel => exact ⟨k + 1, by go_num, by omega, hY.out⟩
          case measure => simp [intOf]; omega
      · -- 48 ≤ z ∧ z ≤ 57
        have : ¬ 97 ≤ (s[k].toNat : Int) := by omega
        have : (s[k].toNat : Int) ≤ 122 := by omega
        have : ¬ 65 ≤ (s[k].toNat : Int) := by omega
        have : (s[k].toNat : Int) ≤ 90 := by omega
        have : 48 ≤ (s[k].toNat : Int) := by omega
        have : (s[k].toNat : Int) ≤ 57 := by omega
        have : ((s[k].toNat : Int) == 95) = false := by simp; omega
        have : ((s[k].toNat : Int) == 43) = false := by simp; omega
        have : ((s[k].toNat : Int) == 45) = false := by simp; omega
        have : ((s[k].toNat : Int) == 47) = false := by simp; omega
        by_cases hk0 : k = 0
        · have hE := Lib.hid (HNo.out (by unfold okC; rw [decide_eq_false (show ¬ k ≠ 0 by omega), Bool.and_false, Bool.or_false]; exact decide_eq_false (by omega)))
          have hkb : ((k : Int) == 0) = true := by simp [hk0]
          clear HYs HNo g hk0
          go_wp2_with fail
          go_ret
          exact ⟨by rw [hE.out]; rfl, rfl⟩
        · have hY := Lib.hid (HYs.out (by unfold okC; simp [hk0]; omega))
          have hkb : ((k : Int) == 0) = false := by simp [hk0]
          clear HYs HNo g hk0
          go_wp2_with fail
          go_round
          case rel => exact ⟨k + 1, by go_num, by omega, hY.out⟩
          case measure => simp [intOf]; omega
      · -- 58 ≤ z ∧ z ≤ 64
        have : ¬ 97 ≤ (s[k].toNat : Int) := by omega
        have : (s[k].toNat : Int) ≤ 122 := by omega
        have : ¬ 65 ≤ (s[k].toNat : Int) := by omega
        have : (s[k].toNat : Int) ≤ 90 := by omega
        have : 48 ≤ (s[k].toNat : Int) := by omega
        have : ¬ (s[k].toNat : Int) ≤ 57 := by omega
        have : ((s[k].toNat : Int) == 95) = false := by simp; omega
        have : ((s[k].toNat : Int) == 43) = false := by simp; omega
        have : ((s[k].toNat : Int) == 45) = false := by simp; omega
        have : ((s[k].toNat : Int) == 47) = false := by simp; omega
        have hE := Lib.hid (HNo.out (by unfold okC; simp; omega))
        clear HYs HNo g
        go_wp2_with fail
        all_goals
          go_ret
          exact ⟨by rw [hE.out]; rfl, rfl⟩
      · -- 65 ≤ z ∧ z ≤ 90
        have : ¬ 97 ≤ (s[k].toNat : Int) := by omega
        have : (s[k].toNat : Int) ≤ 122 := by omega
        have : 65 ≤ (s[k].toNat : Int) := by omega
        have : (s[k].toNat : Int) ≤ 90 := by omega
        have : 48 ≤ (s[k].toNat : Int) := by omega
        have : ¬ (s[k].toNat : Int) ≤ 57 := by omega
        have : ((s[k].toNat : Int) == 95) = false := by simp; omega
        have : ((s[k].toNat : Int) == 43) = false := by simp; omega
        have : ((s[k].toNat : Int) == 45) = false := by simp; omega
        have : ((s[k].toNat : Int) == 47) = false := by simp; omega
        have hY := Lib.hid (HYs.out (by unfold okC; simp; omega))
        clear HYs HNo g
        go_wp2_with fail
        go_round
        case rel => exact ⟨k + 1, by go_num, by omega, hY.out⟩
        case measure => simp [intOf]; omega
      · -- 91 ≤ z ∧ z ≤ 94
        have : ¬ 97 ≤ (s[k].toNat : Int) := by omega
        have : (s[k].toNat : Int) ≤ 122 := by omega
        have : 65 ≤ (s[k].toNat : Int) := by omega
        have : ¬ (s[k].toNat : Int) ≤ 90 := by omega
        have : 48 ≤ (s[k].toNat : Int) := by omega
        have : ¬ (s[k].toNat : Int) ≤ 57 := by omega
        have : ((s[k].toNat : Int) == 95) = false := by simp; omega
        have : ((s[k].toNat : Int) == 43) = false := by simp; omega
        have : ((s[k].toNat : Int) == 45) = false := by simp; omega
        have : ((s[k].toNat : Int) == 47) = false := by simp; omega
        have hE := Lib.hid (HNo.out (by unfold okC; simp; omega))
        clear HYs HNo g
        go_wp2_with fail
        all_goals
          go_ret
          exact ⟨by rw [hE.out]; rfl, rfl⟩
      · -- z = 95
        have : ¬ 97 ≤ (s[k].toNat : Int) := by omega
        have : (s[k].toNat : Int) ≤ 122 := by omega
        have : 65 ≤ (s[k].toNat : Int) := by omega
        have : ¬ (s[k].toNat : Int) ≤ 90 := by omega
        have : 48 ≤ (s[k].toNat : Int) := by omega
        have : ¬ (s[k].toNat : Int) ≤ 57 := by omega
        have : ((s[k].toNat : Int) == 95) = true := by simp; omega
        have : ((s[k].toNat : Int) == 43) = false := by simp; omega
        have : ((s[k].toNat : Int) == 45) = false := by simp; omega
        have : ((s[k].toNat : Int) == 47) = false := by simp; omega
        have hY := Lib.hid (HYs.out (by unfold okC; simp; omega))
        clear HYs HNo g
        go_wp2_with fail
        go_round
        case rel => exact ⟨k + 1, by go_num, by omega, hY.out⟩
        case measure => simp [intOf]; omega
      · -- z = 96
        have : ¬ 97 ≤ (s[k].toNat : Int) := by omega
        have : (s[k].toNat : Int) ≤ 122 := by omega
        have : 65 ≤ (s[k].toNat : Int) := by omega
        have : ¬ (s[k].toNat : Int) ≤ 90 := by omega
        have : 48 ≤ (s[k].toNat : Int) := by omega
        have : ¬ (s[k].toNat : Int) ≤ 57 := by omega
        have : ((s[k].toNat : Int) == 95) = false := by simp; omega
        have : ((s[k].toNat : Int) == 43) = false := by simp; omega
        have : ((s[k].toNat : Int) == 45) = false := by simp; omega
        have : ((s[k].toNat : Int) == 47) = false := by simp; omega
        have hE := Lib.hid (HNo.out (by unfold okC; simp; omega))
        clear HYs HNo g
        go_wp2_with fail
        all_goals
          go_ret
          exact ⟨by rw [hE.out]; rfl, rfl⟩
      · -- 97 ≤ z ∧ z ≤ 122
        have : 97 ≤ (s[k].toNat : Int) := by omega
        have : (s[k].toNat : Int) ≤ 122 := by omega
        have : 65 ≤ (s[k].toNat : Int) := by omega
        have : ¬ (s[k].toNat : Int) ≤ 90 := by omega
        have : 48 ≤ (s[k].toNat : Int) := by omega
        have : ¬ (s[k].toNat : Int) ≤ 57 := by omega
        have : ((s[k].toNat : Int) == 95) = false := by simp; omega
        have : ((s[k].toNat : Int) == 43) = false := by simp; omega
        have : ((s[k].toNat : Int) == 45) = false := by simp; omega
        have : ((s[k].toNat : Int) == 47) = false := by simp; omega
        have hY := Lib.hid (HYs.out (by unfold okC; simp; omega))
        clear HYs HNo g
        go_wp2_with fail
        go_round
        case rel => exact ⟨k + 1, by go_num, by omega, hY.out⟩
        case measure => simp [intOf]; omega
      · -- 123 ≤ z
        have : 97 ≤ (s[k].toNat : Int) := by omega
        have : ¬ (s[k].toNat : Int) ≤ 122 := by omega
        have : 65 ≤ (s[k].toNat : Int) := by omega
        have : ¬ (s[k].toNat : Int) ≤ 90 := by omega
        have : 48 ≤ (s[k].toNat : Int) := by omega
        have : ¬ (s[k].toNat : Int) ≤ 57 := by omega
        have : ((s[k].toNat : Int) == 95) = false := by simp; omega
        have : ((s[k].toNat : Int) == 43) = false := by simp; omega
        have : ((s[k].toNat : Int) == 45) = false := by simp; omega
        have : ((s[k].toNat : Int) == 47) = false := by simp; omega
        have hE := Lib.hid (HNo.out (by unfold okC; simp; omega))
        clear HYs HNo g
        go_wp2_with fail
        all_goals
          go_ret
          exact ⟨by rw [hE.out]; rfl, rfl⟩
    · have hlt' : ¬ (k : Int) < (s.size : Int) := by omega
      have hE := Lib.hid (HY.out (fun j hj => HA.out j (by omega)))
      clear HY HA
      go_wp2_with fail
      go_ret
      exact ⟨by rw [hE.out]; rfl, rfl⟩
end Go.Proofs.YtoklcbkphipmkaaDoor.Nv
namespace Go.Proofs.YtoklcbkphipmkaaDoor.Oc
open Go.ChangeShapes Go.WideShapes Go.ChangeAt Go.RowKit
open Go.Proofs.YtoklcbkphipmkaaDoor
open Go.Proofs.YtoklcbkphipmkaaDoor.Wd
open Go.Proofs.YtoklcbkphipmkaaDoor.Sr
open Go.Proofs.YtoklcbkphipmkaaDoor.Civ (Tab ret_int)
open Go.Proofs.YtoklcbkphipmkaaDoor.Dy
open Go.Proofs.YtoklcbkphipmkaaDoor.Va (bal bcl)
set_option linter.unusedVariables false
set_option linter.unusedSimpArgs false
set_option maxHeartbeats 6400000 in
theorem rdchk_any (k n dw : Int) (w : World) (hk : 0 ≤ k) :
    Calls Tryd.prog 39 #[dayV k n dw] w fun e w' => e = .returned (.int .i64 (dE k n dw)) ∧ Below w.heap.size w w' := by
  have hb := d_box w #[.int .u8 k, .int .i64 n, .int .i64 dw]
  have hn : (¬ 1 ≤ n ∧ n ≠ 0) ∨ n = 0 ∨ (1 ≤ n ∧ n ≤ 31) ∨ (1 ≤ n ∧ ¬ n ≤ 31) := by omega
  have hd : (¬ 0 ≤ dw ∧ dw ≠ 0) ∨ dw = 0 ∨ (0 ≤ dw ∧ dw ≤ 6 ∧ dw ≠ 0) ∨ (0 ≤ dw ∧ ¬ dw ≤ 6 ∧ dw ≠ 0) := by omega
  by_cases h4 : 3 < k
  · have HE := Lib.hid (dE_no (k := k) (n := n) (dw := dw) (by omega))
    have e0 : (k == 0) = false := by rw [beq_eq_false_iff_ne]; omega
    have e1 : (k == 1) = false := by rw [beq_eq_false_iff_ne]; omega
    have e2 : (k == 2) = false := by rw [beq_eq_false_iff_ne]; omega
    have e3 : (k == 3) = false := by rw [beq_eq_false_iff_ne]; omega
    clear h4 hk
    rcases hn with ⟨n1, _⟩ | rfl | ⟨n1, n2⟩ | ⟨n1, n2⟩ <;> rcases hd with ⟨d1, _⟩ | rfl | ⟨d1, d2, _⟩ | ⟨d1, d2, _⟩
    all_goals
      go_enter Tryd.func39, Tryd.ntmps39
      go_wp2
      go_ret
      exact ⟨ret_int HE.out.symm, hb⟩
  · have hkk : k = 0 ∨ k = 1 ∨ k = 2 ∨ k = 3 := by omega
    clear h4 hk
    have fin : ∀ (k n dw v : Int), (v = 0 ∧ (k ≤ 3 ∧ dLo k ≤ n ∧ n ≤ dHi k ∧ 0 ≤ dw ∧ dw ≤ dDs k)) ∨ (v = 2 ∧ ¬ (k ≤ 3 ∧ dLo k ≤ n ∧ n ≤ dHi k ∧ 0 ≤ dw ∧ dw ≤ dDs k)) → dE k n dw = v := by
      intro k n dw v h
      rcases h with ⟨rfl, h⟩ | ⟨rfl, h⟩
      · exact dE_yes h
      · exact dE_no h
    have FIN := Lib.hid fin; clear fin
    rcases hkk with rfl | rfl | rfl | rfl <;> rcases hn with ⟨n1, n0⟩ | rfl | ⟨n1, n2⟩ | ⟨n1, n2⟩ <;> rcases hd with ⟨d1, d0⟩ | rfl | ⟨d1, d2, d0⟩ | ⟨d1, d2, d0⟩
    · have HE := Lib.hid (FIN.out 0 n dw 2 (.inr ⟨rfl, by rw [show dLo 0 = 1 from rfl, show dHi 0 = 31 from rfl, show dDs 0 = 0 from rfl]; omega⟩))
      have f0 : (n == 0) = false := by rw [beq_eq_false_iff_ne]; omega
      have g0 : (dw == 0) = false := by rw [beq_eq_false_iff_ne]; omega
      go_enter Tryd.func39, Tryd.ntmps39
      go_wp2
      go_ret
      exact ⟨ret_int HE.out.symm, hb⟩
    · have HE := Lib.hid (FIN.out 0 n 0 2 (.inr ⟨rfl, by rw [show dLo 0 = 1 from rfl, show dHi 0 = 31 from rfl, show dDs 0 = 0 from rfl]; omega⟩))
      have f0 : (n == 0) = false := by rw [beq_eq_false_iff_ne]; omega
      go_enter Tryd.func39, Tryd.ntmps39
      go_wp2
      go_ret
      exact ⟨ret_int HE.out.symm, hb⟩
    · have HE := Lib.hid (FIN.out 0 n dw 2 (.inr ⟨rfl, by rw [show dLo 0 = 1 from rfl, show dHi 0 = 31 from rfl, show dDs 0 = 0 from rfl]; omega⟩))
      have f0 : (n == 0) = false := by rw [beq_eq_false_iff_ne]; omega
      have g0 : (dw == 0) = false := by rw [beq_eq_false_iff_ne]; omega
      go_enter Tryd.func39, Tryd.ntmps39
      go_wp2
      go_ret
      exact ⟨ret_int HE.out.symm, hb⟩
    · have HE := Lib.hid (FIN.out 0 n dw 2 (.inr ⟨rfl, by rw [show dLo 0 = 1 from rfl, show dHi 0 = 31 from rfl, show dDs 0 = 0 from rfl]; omega⟩))
      have f0 : (n == 0) = false := by rw [beq_eq_false_iff_ne]; omega
      have g0 : (dw == 0) = false := by rw [beq_eq_false_iff_ne]; omega
      go_enter Tryd.func39, Tryd.ntmps39
      go_wp2
      go_ret
      exact ⟨ret_int HE.out.symm, hb⟩
    · have HE := Lib.hid (FIN.out 0 0 dw 2 (.inr ⟨rfl, by rw [show dLo 0 = 1 from rfl, show dHi 0 = 31 from rfl, show dDs 0 = 0 from rfl]; omega⟩))
      have g0 : (dw == 0) = false := by rw [beq_eq_false_iff_ne]; omega
      go_enter Tryd.func39, Tryd.ntmps39
      go_wp2
      go_ret
      exact ⟨ret_int HE.out.symm, hb⟩
    · have HE := Lib.hid (FIN.out 0 0 0 2 (.inr ⟨rfl, by rw [show dLo 0 = 1 from rfl, show dHi 0 = 31 from rfl, show dDs 0 = 0 from rfl]; omega⟩))
      go_enter Tryd.func39, Tryd.ntmps39
      go_wp2
      go_ret
      exact ⟨ret_int HE.out.symm, hb⟩
    · have HE := Lib.hid (FIN.out 0 0 dw 2 (.inr ⟨rfl, by rw [show dLo 0 = 1 from rfl, show dHi 0 = 31 from rfl, show dDs 0 = 0 from rfl]; omega⟩))
      have g0 : (dw == 0) = false := by rw [beq_eq_false_iff_ne]; omega
      go_enter Tryd.func39, Tryd.ntmps39
      go_wp2
      go_ret
      exact ⟨ret_int HE.out.symm, hb⟩
    · have HE := Lib.hid (FIN.out 0 0 dw 2 (.inr ⟨rfl, by rw [show dLo 0 = 1 from rfl, show dHi 0 = 31 from rfl, show dDs 0 = 0 from rfl]; omega⟩))
      have g0 : (dw == 0) = false := by rw [beq_eq_false_iff_ne]; omega
      go_enter Tryd.func39, Tryd.ntmps39
      go_wp2
      go_ret
      exact ⟨ret_int HE.out.symm, hb⟩
    · have HE := Lib.hid (FIN.out 0 n dw 2 (.inr ⟨rfl, by rw [show dLo 0 = 1 from rfl, show dHi 0 = 31 from rfl, show dDs 0 = 0 from rfl]; omega⟩))
      have f0 : (n == 0) = false := by rw [beq_eq_false_iff_ne]; omega
      have g0 : (dw == 0) = false := by rw [beq_eq_false_iff_ne]; omega
      go_enter Tryd.func39, Tryd.ntmps39
      go_wp2
      go_ret
      exact ⟨ret_int HE.out.symm, hb⟩
    · have HE := Lib.hid (FIN.out 0 n 0 0 (.inl ⟨rfl, by rw [show dLo 0 = 1 from rfl, show dHi 0 = 31 from rfl, show dDs 0 = 0 from rfl]; omega⟩))
      have f0 : (n == 0) = false := by rw [beq_eq_false_iff_ne]; omega
      go_enter Tryd.func39, Tryd.ntmps39
      go_wp2
      go_ret
      exact ⟨ret_int HE.out.symm, hb⟩
    · have HE := Lib.hid (FIN.out 0 n dw 2 (.inr ⟨rfl, by rw [show dLo 0 = 1 from rfl, show dHi 0 = 31 from rfl, show dDs 0 = 0 from rfl]; omega⟩))
      have f0 : (n == 0) = false := by rw [beq_eq_false_iff_ne]; omega
      have g0 : (dw == 0) = false := by rw [beq_eq_false_iff_ne]; omega
      go_enter Tryd.func39, Tryd.ntmps39
      go_wp2
      go_ret
      exact ⟨ret_int HE.out.symm, hb⟩
    · have HE := Lib.hid (FIN.out 0 n dw 2 (.inr ⟨rfl, by rw [show dLo 0 = 1 from rfl, show dHi 0 = 31 from rfl, show dDs 0 = 0 from rfl]; omega⟩))
      have f0 : (n == 0) = false := by rw [beq_eq_false_iff_ne]; omega
      have g0 : (dw == 0) = false := by rw [beq_eq_false_iff_ne]; omega
      go_enter Tryd.func39, Tryd.ntmps39
      go_wp2
      go_ret
      exact ⟨ret_int HE.out.symm, hb⟩
    · have HE := Lib.hid (FIN.out 0 n dw 2 (.inr ⟨rfl, by rw [show dLo 0 = 1 from rfl, show dHi 0 = 31 from rfl, show dDs 0 = 0 from rfl]; omega⟩))
      have f0 : (n == 0) = false := by rw [beq_eq_false_iff_ne]; omega
      have g0 : (dw == 0) = false := by rw [beq_eq_false_iff_ne]; omega
      go_enter Tryd.func39, Tryd.ntmps39
      go_wp2
      go_ret
      exact ⟨ret_int HE.out.symm, hb⟩
    · have HE := Lib.hid (FIN.out 0 n 0 2 (.inr ⟨rfl, by rw [show dLo 0 = 1 from rfl, show dHi 0 = 31 from rfl, show dDs 0 = 0 from rfl]; omega⟩))
      have f0 : (n == 0) = false := by rw [beq_eq_false_iff_ne]; omega
      go_enter Tryd.func39, Tryd.ntmps39
      go_wp2
      go_ret
      exact ⟨ret_int HE.out.symm, hb⟩
    · have HE := Lib.hid (FIN.out 0 n dw 2 (.inr ⟨rfl, by rw [show dLo 0 = 1 from rfl, show dHi 0 = 31 from rfl, show dDs 0 = 0 from rfl]; omega⟩))
      have f0 : (n == 0) = false := by rw [beq_eq_false_iff_ne]; omega
      have g0 : (dw == 0) = false := by rw [beq_eq_false_iff_ne]; omega
      go_enter Tryd.func39, Tryd.ntmps39
      go_wp2
      go_ret
      exact ⟨ret_int HE.out.symm, hb⟩
    · have HE := Lib.hid (FIN.out 0 n dw 2 (.inr ⟨rfl, by rw [show dLo 0 = 1 from rfl, show dHi 0 = 31 from rfl, show dDs 0 = 0 from rfl]; omega⟩))
      have f0 : (n == 0) = false := by rw [beq_eq_false_iff_ne]; omega
      have g0 : (dw == 0) = false := by rw [beq_eq_false_iff_ne]; omega
      go_enter Tryd.func39, Tryd.ntmps39
      go_wp2
      go_ret
      exact ⟨ret_int HE.out.symm, hb⟩
    · have HE := Lib.hid (FIN.out 1 n dw 2 (.inr ⟨rfl, by rw [show dLo 1 = 0 from rfl, show dHi 1 = 0 from rfl, show dDs 1 = 6 from rfl]; omega⟩))
      have f0 : (n == 0) = false := by rw [beq_eq_false_iff_ne]; omega
      have g0 : (dw == 0) = false := by rw [beq_eq_false_iff_ne]; omega
      go_enter Tryd.func39, Tryd.ntmps39
      go_wp2
      go_ret
      exact ⟨ret_int HE.out.symm, hb⟩
    · have HE := Lib.hid (FIN.out 1 n 0 2 (.inr ⟨rfl, by rw [show dLo 1 = 0 from rfl, show dHi 1 = 0 from rfl, show dDs 1 = 6 from rfl]; omega⟩))
      have f0 : (n == 0) = false := by rw [beq_eq_false_iff_ne]; omega
      go_enter Tryd.func39, Tryd.ntmps39
      go_wp2
      go_ret
      exact ⟨ret_int HE.out.symm, hb⟩
    · have HE := Lib.hid (FIN.out 1 n dw 2 (.inr ⟨rfl, by rw [show dLo 1 = 0 from rfl, show dHi 1 = 0 from rfl, show dDs 1 = 6 from rfl]; omega⟩))
      have f0 : (n == 0) = false := by rw [beq_eq_false_iff_ne]; omega
      have g0 : (dw == 0) = false := by rw [beq_eq_false_iff_ne]; omega
      go_enter Tryd.func39, Tryd.ntmps39
      go_wp2
      go_ret
      exact ⟨ret_int HE.out.symm, hb⟩
    · have HE := Lib.hid (FIN.out 1 n dw 2 (.inr ⟨rfl, by rw [show dLo 1 = 0 from rfl, show dHi 1 = 0 from rfl, show dDs 1 = 6 from rfl]; omega⟩))
      have f0 : (n == 0) = false := by rw [beq_eq_false_iff_ne]; omega
      have g0 : (dw == 0) = false := by rw [beq_eq_false_iff_ne]; omega
      go_enter Tryd.func39, Tryd.ntmps39
      go_wp2
      go_ret
      exact ⟨ret_int HE.out.symm, hb⟩
    · have HE := Lib.hid (FIN.out 1 0 dw 2 (.inr ⟨rfl, by rw [show dLo 1 = 0 from rfl, show dHi 1 = 0 from rfl, show dDs 1 = 6 from rfl]; omega⟩))
      have g0 : (dw == 0) = false := by rw [beq_eq_false_iff_ne]; omega
      go_enter Tryd.func39, Tryd.ntmps39
      go_wp2
      go_ret
      exact ⟨ret_int HE.out.symm, hb⟩
    · have HE := Lib.hid (FIN.out 1 0 0 0 (.inl ⟨rfl, by rw [show dLo 1 = 0 from rfl, show dHi 1 = 0 from rfl, show dDs 1 = 6 from rfl]; omega⟩))
      go_enter Tryd.func39, Tryd.ntmps39
      go_wp2
      go_ret
      exact ⟨ret_int HE.out.symm, hb⟩
    · have HE := Lib.hid (FIN.out 1 0 dw 0 (.inl ⟨rfl, by rw [show dLo 1 = 0 from rfl, show dHi 1 = 0 from rfl, show dDs 1 = 6 from rfl]; omega⟩))
      have g0 : (dw == 0) = false := by rw [beq_eq_false_iff_ne]; omega
      go_enter Tryd.func39, Tryd.ntmps39
      go_wp2
      go_ret
      exact ⟨ret_int HE.out.symm, hb⟩
    · have HE := Lib.hid (FIN.out 1 0 dw 2 (.inr ⟨rfl, by rw [show dLo 1 = 0 from rfl, show dHi 1 = 0 from rfl, show dDs 1 = 6 from rfl]; omega⟩))
      have g0 : (dw == 0) = false := by rw [beq_eq_false_iff_ne]; omega
      go_enter Tryd.func39, Tryd.ntmps39
      go_wp2
      go_ret
      exact ⟨ret_int HE.out.symm, hb⟩
    · have HE := Lib.hid (FIN.out 1 n dw 2 (.inr ⟨rfl, by rw [show dLo 1 = 0 from rfl, show dHi 1 = 0 from rfl, show dDs 1 = 6 from rfl]; omega⟩))
      have f0 : (n == 0) = false := by rw [beq_eq_false_iff_ne]; omega
      have g0 : (dw == 0) = false := by rw [beq_eq_false_iff_ne]; omega
      go_enter Tryd.func39, Tryd.ntmps39
      go_wp2
      go_ret
      exact ⟨ret_int HE.out.symm, hb⟩
    · have HE := Lib.hid (FIN.out 1 n 0 2 (.inr ⟨rfl, by rw [show dLo 1 = 0 from rfl, show dHi 1 = 0 from rfl, show dDs 1 = 6 from rfl]; omega⟩))
      have f0 : (n == 0) = false := by rw [beq_eq_false_iff_ne]; omega
      go_enter Tryd.func39, Tryd.ntmps39
      go_wp2
      go_ret
      exact ⟨ret_int HE.out.symm, hb⟩
    · have HE := Lib.hid (FIN.out 1 n dw 2 (.inr ⟨rfl, by rw [show dLo 1 = 0 from rfl, show dHi 1 = 0 from rfl, show dDs 1 = 6 from rfl]; omega⟩))
      have f0 : (n == 0) = false := by rw [beq_eq_false_iff_ne]; omega
      have g0 : (dw == 0) = false := by rw [beq_eq_false_iff_ne]; omega
      go_enter Tryd.func39, Tryd.ntmps39
      go_wp2
      go_ret
      exact ⟨ret_int HE.out.symm, hb⟩
    · have HE := Lib.hid (FIN.out 1 n dw 2 (.inr ⟨rfl, by rw [show dLo 1 = 0 from rfl, show dHi 1 = 0 from rfl, show dDs 1 = 6 from rfl]; omega⟩))
      have f0 : (n == 0) = false := by rw [beq_eq_false_iff_ne]; omega
      have g0 : (dw == 0) = false := by rw [beq_eq_false_iff_ne]; omega
      go_enter Tryd.func39, Tryd.ntmps39
      go_wp2
      go_ret
      exact ⟨ret_int HE.out.symm, hb⟩
    · have HE := Lib.hid (FIN.out 1 n dw 2 (.inr ⟨rfl, by rw [show dLo 1 = 0 from rfl, show dHi 1 = 0 from rfl, show dDs 1 = 6 from rfl]; omega⟩))
      have f0 : (n == 0) = false := by rw [beq_eq_false_iff_ne]; omega
      have g0 : (dw == 0) = false := by rw [beq_eq_false_iff_ne]; omega
      go_enter Tryd.func39, Tryd.ntmps39
      go_wp2
      go_ret
      exact ⟨ret_int HE.out.symm, hb⟩
    · have HE := Lib.hid (FIN.out 1 n 0 2 (.inr ⟨rfl, by rw [show dLo 1 = 0 from rfl, show dHi 1 = 0 from rfl, show dDs 1 = 6 from rfl]; omega⟩))
      have f0 : (n == 0) = false := by rw [beq_eq_false_iff_ne]; omega
      go_enter Tryd.func39, Tryd.ntmps39
      go_wp2
      go_ret
      exact ⟨ret_int HE.out.symm, hb⟩
    · have HE := Lib.hid (FIN.out 1 n dw 2 (.inr ⟨rfl, by rw [show dLo 1 = 0 from rfl, show dHi 1 = 0 from rfl, show dDs 1 = 6 from rfl]; omega⟩))
      have f0 : (n == 0) = false := by rw [beq_eq_false_iff_ne]; omega
      have g0 : (dw == 0) = false := by rw [beq_eq_false_iff_ne]; omega
      go_enter Tryd.func39, Tryd.ntmps39
      go_wp2
      go_ret
      exact ⟨ret_int HE.out.symm, hb⟩
    · have HE := Lib.hid (FIN.out 1 n dw 2 (.inr ⟨rfl, by rw [show dLo 1 = 0 from rfl, show dHi 1 = 0 from rfl, show dDs 1 = 6 from rfl]; omega⟩))
      have f0 : (n == 0) = false := by rw [beq_eq_false_iff_ne]; omega
      have g0 : (dw == 0) = false := by rw [beq_eq_false_iff_ne]; omega
      go_enter Tryd.func39, Tryd.ntmps39
      go_wp2
      go_ret
      exact ⟨ret_int HE.out.symm, hb⟩
    · have HE := Lib.hid (FIN.out 2 n dw 2 (.inr ⟨rfl, by rw [show dLo 2 = 1 from rfl, show dHi 2 = 31 from rfl, show dDs 2 = 6 from rfl]; omega⟩))
      have f0 : (n == 0) = false := by rw [beq_eq_false_iff_ne]; omega
      have g0 : (dw == 0) = false := by rw [beq_eq_false_iff_ne]; omega
      go_enter Tryd.func39, Tryd.ntmps39
      go_wp2
      go_ret
      exact ⟨ret_int HE.out.symm, hb⟩
    · have HE := Lib.hid (FIN.out 2 n 0 2 (.inr ⟨rfl, by rw [show dLo 2 = 1 from rfl, show dHi 2 = 31 from rfl, show dDs 2 = 6 from rfl]; omega⟩))
      have f0 : (n == 0) = false := by rw [beq_eq_false_iff_ne]; omega
      go_enter Tryd.func39, Tryd.ntmps39
      go_wp2
      go_ret
      exact ⟨ret_int HE.out.symm, hb⟩
    · have HE := Lib.hid (FIN.out 2 n dw 2 (.inr ⟨rfl, by rw [show dLo 2 = 1 from rfl, show dHi 2 = 31 from rfl, show dDs 2 = 6 from rfl]; omega⟩))
      have f0 : (n == 0) = false := by rw [beq_eq_false_iff_ne]; omega
      have g0 : (dw == 0) = false := by rw [beq_eq_false_iff_ne]; omega
      go_enter Tryd.func39, Tryd.ntmps39
      go_wp2
      go_ret
      exact ⟨ret_int HE.out.symm, hb⟩
    · have HE := Lib.hid (FIN.out 2 n dw 2 (.inr ⟨rfl, by rw [show dLo 2 = 1 from rfl, show dHi 2 = 31 from rfl, show dDs 2 = 6 from rfl]; omega⟩))
      have f0 : (n == 0) = false := by rw [beq_eq_false_iff_ne]; omega
      have g0 : (dw == 0) = false := by rw [beq_eq_false_iff_ne]; omega
      go_enter Tryd.func39, Tryd.ntmps39
      go_wp2
      go_ret
      exact ⟨ret_int HE.out.symm, hb⟩
    · have HE := Lib.hid (FIN.out 2 0 dw 2 (.inr ⟨rfl, by rw [show dLo 2 = 1 from rfl, show dHi 2 = 31 from rfl, show dDs 2 = 6 from rfl]; omega⟩))
      have g0 : (dw == 0) = false := by rw [beq_eq_false_iff_ne]; omega
      go_enter Tryd.func39, Tryd.ntmps39
      go_wp2
      go_ret
      exact ⟨ret_int HE.out.symm, hb⟩
    · have HE := Lib.hid (FIN.out 2 0 0 2 (.inr ⟨rfl, by rw [show dLo 2 = 1 from rfl, show dHi 2 = 31 from rfl, show dDs 2 = 6 from rfl]; omega⟩))
      go_enter Tryd.func39, Tryd.ntmps39
      go_wp2
      go_ret
      exact ⟨ret_int HE.out.symm, hb⟩
    · have HE := Lib.hid (FIN.out 2 0 dw 2 (.inr ⟨rfl, by rw [show dLo 2 = 1 from rfl, show dHi 2 = 31 from rfl, show dDs 2 = 6 from rfl]; omega⟩))
      have g0 : (dw == 0) = false := by rw [beq_eq_false_iff_ne]; omega
      go_enter Tryd.func39, Tryd.ntmps39
      go_wp2
      go_ret
      exact ⟨ret_int HE.out.symm, hb⟩
    · have HE := Lib.hid (FIN.out 2 0 dw 2 (.inr ⟨rfl, by rw [show dLo 2 = 1 from rfl, show dHi 2 = 31 from rfl, show dDs 2 = 6 from rfl]; omega⟩))
      have g0 : (dw == 0) = false := by rw [beq_eq_false_iff_ne]; omega
      go_enter Tryd.func39, Tryd.ntmps39
      go_wp2
      go_ret
      exact ⟨ret_int HE.out.symm, hb⟩
    · have HE := Lib.hid (FIN.out 2 n dw 2 (.inr ⟨rfl, by rw [show dLo 2 = 1 from rfl, show dHi 2 = 31 from rfl, show dDs 2 = 6 from rfl]; omega⟩))
      have f0 : (n == 0) = false := by rw [beq_eq_false_iff_ne]; omega
      have g0 : (dw == 0) = false := by rw [beq_eq_false_iff_ne]; omega
      go_enter Tryd.func39, Tryd.ntmps39
      go_wp2
      go_ret
      exact ⟨ret_int HE.out.symm, hb⟩
    · have HE := Lib.hid (FIN.out 2 n 0 0 (.inl ⟨rfl, by rw [show dLo 2 = 1 from rfl, show dHi 2 = 31 from rfl, show dDs 2 = 6 from rfl]; omega⟩))
      have f0 : (n == 0) = false := by rw [beq_eq_false_iff_ne]; omega
      go_enter Tryd.func39, Tryd.ntmps39
      go_wp2
      go_ret
      exact ⟨ret_int HE.out.symm, hb⟩
    · have HE := Lib.hid (FIN.out 2 n dw 0 (.inl ⟨rfl, by rw [show dLo 2 = 1 from rfl, show dHi 2 = 31 from rfl, show dDs 2 = 6 from rfl]; omega⟩))
      have f0 : (n == 0) = false := by rw [beq_eq_false_iff_ne]; omega
      have g0 : (dw == 0) = false := by rw [beq_eq_false_iff_ne]; omega
      go_enter Tryd.func39, Tryd.ntmps39
      go_wp2
      go_ret
      exact ⟨ret_int HE.out.symm, hb⟩
    · have HE := Lib.hid (FIN.out 2 n dw 2 (.inr ⟨rfl, by rw [show dLo 2 = 1 from rfl, show dHi 2 = 31 from rfl, show dDs 2 = 6 from rfl]; omega⟩))
      have f0 : (n == 0) = false := by rw [beq_eq_false_iff_ne]; omega
      have g0 : (dw == 0) = false := by rw [beq_eq_false_iff_ne]; omega
      go_enter Tryd.func39, Tryd.ntmps39
      go_wp2
      go_ret
      exact ⟨ret_int HE.out.symm, hb⟩
    · have HE := Lib.hid (FIN.out 2 n dw 2 (.inr ⟨rfl, by rw [show dLo 2 = 1 from rfl, show dHi 2 = 31 from rfl, show dDs 2 = 6 from rfl]; omega⟩))
      have f0 : (n == 0) = false := by rw [beq_eq_false_iff_ne]; omega
      have g0 : (dw == 0) = false := by rw [beq_eq_false_iff_ne]; omega
      go_enter Tryd.func39, Tryd.ntmps39
      go_wp2
      go_ret
      exact ⟨ret_int HE.out.symm, hb⟩
    · have HE := Lib.hid (FIN.out 2 n 0 2 (.inr ⟨rfl, by rw [show dLo 2 = 1 from rfl, show dHi 2 = 31 from rfl, show dDs 2 = 6 from rfl]; omega⟩))
      have f0 : (n == 0) = false := by rw [beq_eq_false_iff_ne]; omega
      go_enter Tryd.func39, Tryd.ntmps39
      go_wp2
      go_ret
      exact ⟨ret_int HE.out.symm, hb⟩
    · have HE := Lib.hid (FIN.out 2 n dw 2 (.inr ⟨rfl, by rw [show dLo 2 = 1 from rfl, show dHi 2 = 31 from rfl, show dDs 2 = 6 from rfl]; omega⟩))
      have f0 : (n == 0) = false := by rw [beq_eq_false_iff_ne]; omega
      have g0 : (dw == 0) = false := by rw [beq_eq_false_iff_ne]; omega
      go_enter Tryd.func39, Tryd.ntmps39
      go_wp2
      go_ret
      exact ⟨ret_int HE.out.symm, hb⟩
    · have HE := Lib.hid (FIN.out 2 n dw 2 (.inr ⟨rfl, by rw [show dLo 2 = 1 from rfl, show dHi 2 = 31 from rfl, show dDs 2 = 6 from rfl]; omega⟩))
      have f0 : (n == 0) = false := by rw [beq_eq_false_iff_ne]; omega
      have g0 : (dw == 0) = false := by rw [beq_eq_false_iff_ne]; omega
      go_enter Tryd.func39, Tryd.ntmps39
      go_wp2
      go_ret
      exact ⟨ret_int HE.out.symm, hb⟩
    · have HE := Lib.hid (FIN.out 3 n dw 2 (.inr ⟨rfl, by rw [show dLo 3 = 1 from rfl, show dHi 3 = 31 from rfl, show dDs 3 = 6 from rfl]; omega⟩))
      have f0 : (n == 0) = false := by rw [beq_eq_false_iff_ne]; omega
      have g0 : (dw == 0) = false := by rw [beq_eq_false_iff_ne]; omega
      go_enter Tryd.func39, Tryd.ntmps39
      go_wp2
      go_ret
      exact ⟨ret_int HE.out.symm, hb⟩
    · have HE := Lib.hid (FIN.out 3 n 0 2 (.inr ⟨rfl, by rw [show dLo 3 = 1 from rfl, show dHi 3 = 31 from rfl, show dDs 3 = 6 from rfl]; omega⟩))
      have f0 : (n == 0) = false := by rw [beq_eq_false_iff_ne]; omega
      go_enter Tryd.func39, Tryd.ntmps39
      go_wp2
      go_ret
      exact ⟨ret_int HE.out.symm, hb⟩
    · have HE := Lib.hid (FIN.out 3 n dw 2 (.inr ⟨rfl, by rw [show dLo 3 = 1 from rfl, show dHi 3 = 31 from rfl, show dDs 3 = 6 from rfl]; omega⟩))
      have f0 : (n == 0) = false := by rw [beq_eq_false_iff_ne]; omega
      have g0 : (dw == 0) = false := by rw [beq_eq_false_iff_ne]; omega
      go_enter Tryd.func39, Tryd.ntmps39
      go_wp2
      go_ret
      exact ⟨ret_int HE.out.symm, hb⟩
    · have HE := Lib.hid (FIN.out 3 n dw 2 (.inr ⟨rfl, by rw [show dLo 3 = 1 from rfl, show dHi 3 = 31 from rfl, show dDs 3 = 6 from rfl]; omega⟩))
      have f0 : (n == 0) = false := by rw [beq_eq_false_iff_ne]; omega
      have g0 : (dw == 0) = false := by rw [beq_eq_false_iff_ne]; omega
      go_enter Tryd.func39, Tryd.ntmps39
      go_wp2
      go_ret
      exact ⟨ret_int HE.out.symm, hb⟩
    · have HE := Lib.hid (FIN.out 3 0 dw 2 (.inr ⟨rfl, by rw [show dLo 3 = 1 from rfl, show dHi 3 = 31 from rfl, show dDs 3 = 6 from rfl]; omega⟩))
      have g0 : (dw == 0) = false := by rw [beq_eq_false_iff_ne]; omega
      go_enter Tryd.func39, Tryd.ntmps39
      go_wp2
      go_ret
      exact ⟨ret_int HE.out.symm, hb⟩
    · have HE := Lib.hid (FIN.out 3 0 0 2 (.inr ⟨rfl, by rw [show dLo 3 = 1 from rfl, show dHi 3 = 31 from rfl, show dDs 3 = 6 from rfl]; omega⟩))
      go_enter Tryd.func39, Tryd.ntmps39
      go_wp2
      go_ret
      exact ⟨ret_int HE.out.symm, hb⟩
    · have HE := Lib.hid (FIN.out 3 0 dw 2 (.inr ⟨rfl, by rw [show dLo 3 = 1 from rfl, show dHi 3 = 31 from rfl, show dDs 3 = 6 from rfl]; omega⟩))
      have g0 : (dw == 0) = false := by rw [beq_eq_false_iff_ne]; omega
      go_enter Tryd.func39, Tryd.ntmps39
      go_wp2
      go_ret
      exact ⟨ret_int HE.out.symm, hb⟩
    · have HE := Lib.hid (FIN.out 3 0 dw 2 (.inr ⟨rfl, by rw [show dLo 3 = 1 from rfl, show dHi 3 = 31 from rfl, show dDs 3 = 6 from rfl]; omega⟩))
      have g0 : (dw == 0) = false := by rw [beq_eq_false_iff_ne]; omega
      go_enter Tryd.func39, Tryd.ntmps39
      go_wp2
      go_ret
      exact ⟨ret_int HE.out.symm, hb⟩
    · have HE := Lib.hid (FIN.out 3 n dw 2 (.inr ⟨rfl, by rw [show dLo 3 = 1 from rfl, show dHi 3 = 31 from rfl, show dDs 3 = 6 from rfl]; omega⟩))
      have f0 : (n == 0) = false := by rw [beq_eq_false_iff_ne]; omega
      have g0 : (dw == 0) = false := by rw [beq_eq_false_iff_ne]; omega
      go_enter Tryd.func39, Tryd.ntmps39
      go_wp2
      go_ret
      exact ⟨ret_int HE.out.symm, hb⟩
    · have HE := Lib.hid (FIN.out 3 n 0 0 (.inl ⟨rfl, by rw [show dLo 3 = 1 from rfl, show dHi 3 = 31 from rfl, show dDs 3 = 6 from rfl]; omega⟩))
      have f0 : (n == 0) = false := by rw [beq_eq_false_iff_ne]; omega
      go_enter Tryd.func39, Tryd.ntmps39
      go_wp2
      go_ret
      exact ⟨ret_int HE.out.symm, hb⟩
    · have HE := Lib.hid (FIN.out 3 n dw 0 (.inl ⟨rfl, by rw [show dLo 3 = 1 from rfl, show dHi 3 = 31 from rfl, show dDs 3 = 6 from rfl]; omega⟩))
      have f0 : (n == 0) = false := by rw [beq_eq_false_iff_ne]; omega
      have g0 : (dw == 0) = false := by rw [beq_eq_false_iff_ne]; omega
      go_enter Tryd.func39, Tryd.ntmps39
      go_wp2
      go_ret
      exact ⟨ret_int HE.out.symm, hb⟩
    · have HE := Lib.hid (FIN.out 3 n dw 2 (.inr ⟨rfl, by rw [show dLo 3 = 1 from rfl, show dHi 3 = 31 from rfl, show dDs 3 = 6 from rfl]; omega⟩))
      have f0 : (n == 0) = false := by rw [beq_eq_false_iff_ne]; omega
      have g0 : (dw == 0) = false := by rw [beq_eq_false_iff_ne]; omega
      go_enter Tryd.func39, Tryd.ntmps39
      go_wp2
      go_ret
      exact ⟨ret_int HE.out.symm, hb⟩
    · have HE := Lib.hid (FIN.out 3 n dw 2 (.inr ⟨rfl, by rw [show dLo 3 = 1 from rfl, show dHi 3 = 31 from rfl, show dDs 3 = 6 from rfl]; omega⟩))
      have f0 : (n == 0) = false := by rw [beq_eq_false_iff_ne]; omega
      have g0 : (dw == 0) = false := by rw [beq_eq_false_iff_ne]; omega
      go_enter Tryd.func39, Tryd.ntmps39
      go_wp2
      go_ret
      exact ⟨ret_int HE.out.symm, hb⟩
    · have HE := Lib.hid (FIN.out 3 n 0 2 (.inr ⟨rfl, by rw [show dLo 3 = 1 from rfl, show dHi 3 = 31 from rfl, show dDs 3 = 6 from rfl]; omega⟩))
      have f0 : (n == 0) = false := by rw [beq_eq_false_iff_ne]; omega
      go_enter Tryd.func39, Tryd.ntmps39
      go_wp2
      go_ret
      exact ⟨ret_int HE.out.symm, hb⟩
    · have HE := Lib.hid (FIN.out 3 n dw 2 (.inr ⟨rfl, by rw [show dLo 3 = 1 from rfl, show dHi 3 = 31 from rfl, show dDs 3 = 6 from rfl]; omega⟩))
      have f0 : (n == 0) = false := by rw [beq_eq_false_iff_ne]; omega
      have g0 : (dw == 0) = false := by rw [beq_eq_false_iff_ne]; omega
      go_enter Tryd.func39, Tryd.ntmps39
      go_wp2
      go_ret
      exact ⟨ret_int HE.out.symm, hb⟩
    · have HE := Lib.hid (FIN.out 3 n dw 2 (.inr ⟨rfl, by rw [show dLo 3 = 1 from rfl, show dHi 3 = 31 from rfl, show dDs 3 = 6 from rfl]; omega⟩))
      have f0 : (n == 0) = false := by rw [beq_eq_false_iff_ne]; omega
      have g0 : (dw == 0) = false := by rw [beq_eq_false_iff_ne]; omega
      go_enter Tryd.func39, Tryd.ntmps39
      go_wp2
      go_ret
      exact ⟨ret_int HE.out.symm, hb⟩

theorem rtime_any (t : Int) (w : World) : Calls Tryd.prog 57 #[.int .i64 t] w fun e w' => e = .returned (.bool (decide (-604800 ≤ t ∧ t ≤ 604800))) ∧ w' = w := by
  by_cases h1 : -604800 ≤ t
  · by_cases h2 : t ≤ 604800
    · rw [show decide (-604800 ≤ t ∧ t ≤ 604800) = true from decide_eq_true ⟨h1, h2⟩]
      go_enter Tryd.func57, Tryd.ntmps57
      go_wp2_with fail
      go_ret
      exact ⟨rfl, rfl⟩
    · rw [show decide (-604800 ≤ t ∧ t ≤ 604800) = false from decide_eq_false (fun h => h2 h.2)]
      go_enter Tryd.func57, Tryd.ntmps57
      go_wp2_with fail
      go_ret
      exact ⟨rfl, rfl⟩
  · rw [show decide (-604800 ≤ t ∧ t ≤ 604800) = false from decide_eq_false (fun h => h1 h.1)]
    go_enter Tryd.func57, Tryd.ntmps57
    go_wp2_with fail
    go_ret
    exact ⟨rfl, rfl⟩
theorem conv_at (w : World) (g : Nat) (x : Int) (h : w.cell? ⟨g, 0, none⟩ = some (.int .u8 x)) :
    (convert 134 9 (.slice (some ⟨g, 0, none⟩) 1 1)).run Tryd.prog w = .ok (.string ⟨#[UInt8.ofNat x.toNat]⟩) w := by
  rw [run_convert_bytes_string _ _ _ _ (some ⟨g, 0, none⟩) 1 1 Tryd.underlying134 Tryd.underlying5 Tryd.underlying9]
  have hl := run_loadCells_list (P := Tryd.prog) w ⟨g, 0, none⟩ ([x].map (Value.int .u8)) (fun j v hj => by
    match j, hj with
    | 0, hj => simp at hj; subst hj; simpa [Addr.add] using h)
  rw [run_bytesToString _ _ 1 1 [x] hl]
  rfl
theorem conv_2 (w : World) (g : Nat) (x y : Int) (h : w.cell? ⟨g, 0, none⟩ = some (.int .u8 x)) (h2 : w.cell? ⟨g, 1, none⟩ = some (.int .u8 y)) :
    (convert 134 9 (.slice (some ⟨g, 0, none⟩) 2 2)).run Tryd.prog w = .ok (.string ⟨#[UInt8.ofNat x.toNat, UInt8.ofNat y.toNat]⟩) w := by
  rw [run_convert_bytes_string _ _ _ _ (some ⟨g, 0, none⟩) 2 2 Tryd.underlying134 Tryd.underlying5 Tryd.underlying9]
  have hl := run_loadCells_list (P := Tryd.prog) w ⟨g, 0, none⟩ ([x, y].map (Value.int .u8)) (fun j v hj => by
    match j, hj with
    | 0, hj => simp at hj; subst hj; simpa [Addr.add] using h
    | 1, hj => simp at hj; subst hj; simpa [Addr.add] using h2)
  rw [run_bytesToString _ _ 2 2 [x, y] hl]
  rfl
/-- a text of some bytes is answered -/
def TxP (w : World) (m : Nat) (e : Ending) (w' : World) : Prop := (∃ s : ByteArray, e = .returned (.string s) ∧ 1 ≤ s.size ∧ s.size ≤ m) ∧ Below w.heap.size w w'
set_option maxRecDepth 20000 in
set_option maxHeartbeats 3200000 in
theorem rnum_1 (n : Nat) (w : World) (hn : n < 10) : Calls Tryd.prog 58 #[.int .i64 (n : Int)] w (TxP w 1) := by
  have h0 : ¬ (n : Int) < 0 := by omega
  have h1 : (n : Int) < 10 := by omega
  have hw : IntKind.u8.wrap (48 + (n : Int)) = 48 + (n : Int) := by simp [IntKind.wrap, IntKind.bits, IntKind.signed]; omega
  have hcv := conv_at (w.alloc (.cells #[.int .u8 (48 + (n : Int))] 5)) w.heap.size (48 + (n : Int)) ((Blk.new w 5 #[.int .u8 (48 + (n : Int))]).cell 0)
  go_enter Tryd.func58, Tryd.ntmps58
  go_wp2_with fail
  go_ret
  exact ⟨⟨_, rfl, Nat.le_refl _, Nat.le_refl _⟩, (Below.refl _ w).alloc (Nat.le_refl _) _⟩
set_option maxRecDepth 20000 in
set_option maxHeartbeats 3200000 in
theorem rnum_s (m n : Nat) (w : World) (h10 : 10 ≤ n) (hn : n < 1000000) (hm : m ≤ 10) (h1 : ∀ w, Calls Tryd.prog 58 #[.int .i64 ((n / 10 : Nat) : Int)] w (TxP w m)) : Calls Tryd.prog 58 #[.int .i64 (n : Int)] w (TxP w (m + 1)) := by
  unfold TxP at h1
  have h0 : ¬ (n : Int) < 0 := by omega
  have h2 : ¬ (n : Int) < 10 := by omega
  have t1 : (n : Int).tdiv 10 = ((n / 10 : Nat) : Int) := by rw [Int.tdiv_eq_ediv_of_nonneg (by omega)]; omega
  have t2 : (n : Int).tmod 10 = ((n % 10 : Nat) : Int) := by rw [Int.tmod_eq_emod_of_nonneg (by omega)]; omega
  have b2 : n % 10 < 10 := by omega
  have w64q : IntKind.i64.wrap ((n / 10 : Nat) : Int) = ((n / 10 : Nat) : Int) := by simp [IntKind.wrap, IntKind.bits, IntKind.signed]; omega
  generalize n % 10 = d at *
  generalize n / 10 = q at *
  have hw : IntKind.u8.wrap (48 + (d : Int)) = (48 + (d : Int)) := by simp [IntKind.wrap, IntKind.bits, IntKind.signed]; omega
  have hcA := fun (W : World) (g : Nat) (h : W.cell? ⟨g, 0, none⟩ = some (.int .u8 (48 + (d : Int)))) => conv_at W g (48 + (d : Int)) h
  have HS2 := Lib.hid (show (⟨#[UInt8.ofNat (48 + (d : Int)).toNat]⟩ : ByteArray).size = 1 from rfl)
  generalize (⟨#[UInt8.ofNat (48 + (d : Int)).toNat]⟩ : ByteArray) = s2 at *
  have w64d : IntKind.i64.wrap (48 + (d : Int)) = 48 + (d : Int) := by simp [IntKind.wrap, IntKind.bits, IntKind.signed]; omega
  go_enter Tryd.func58, Tryd.ntmps58
  go_upto_region 5 with fail
  refine wp_region_held_drew (S := fun w' => Below w.heap.size w w') (by kernel_rfl) ((Below.refl _ w).drew) (fun hHeld => ?_)
  generalize w.drew = Wd at *
  refine wpAnyH_take (i := 0) (oi := { dst := some 16, op := Op.move (Operand.tmp 0), type := 2, pos := "ref.go:67", after := #[], guard := none }) (v := ?_) rfl (by kernel_rfl) (by kernel_rfl) (by kernel_rfl) (fun _ _ _ h => h) (Or.inl ⟨by rfl, ?_⟩) hHeld ?_
  rotate_left
  · intro w hSw
    try dsimp only at hSw
    go_simp
    try with_reducible rfl
  try simp only [Act.put, List.setIfInBounds_toArray, List.set_cons_zero, List.set_cons_succ]
  refine wpAnyH_take (i := 1) (oi := { dst := some 17, op := Op.binOp BinOp.quo 2 (Operand.tmp 16) (Operand.const (Value.int IntKind.i64 10)) 2, type := 2, pos := "ref.go:67", after := #[{ on := 0, ground := Ground.data }], guard := none }) (v := ?_) rfl (by kernel_rfl) (by kernel_rfl) (by kernel_rfl) (fun _ _ _ h => h) (Or.inl ⟨by rfl, ?_⟩) hHeld ?_
  rotate_left
  · intro w hSw
    try dsimp only at hSw
    go_simp
    try with_reducible rfl
  try simp only [Act.put, List.setIfInBounds_toArray, List.set_cons_zero, List.set_cons_succ]
  refine wpAnyH_take (i := 3) (oi := { dst := some 19, op := Op.move (Operand.tmp 0), type := 2, pos := "ref.go:67", after := #[], guard := none }) (v := ?_) rfl (by kernel_rfl) (by kernel_rfl) (by kernel_rfl) (fun _ _ _ h => h) (Or.inl ⟨by rfl, ?_⟩) hHeld ?_
  rotate_left
  · intro w hSw
    try dsimp only at hSw
    go_simp
    try with_reducible rfl
  try simp only [Act.put, List.setIfInBounds_toArray, List.set_cons_zero, List.set_cons_succ]
  refine wpAnyH_take (i := 4) (oi := { dst := some 20, op := Op.binOp BinOp.rem 2 (Operand.tmp 19) (Operand.const (Value.int IntKind.i64 10)) 2, type := 2, pos := "ref.go:67", after := #[{ on := 3, ground := Ground.data }], guard := none }) (v := ?_) rfl (by kernel_rfl) (by kernel_rfl) (by kernel_rfl) (fun _ _ _ h => h) (Or.inl ⟨by rfl, ?_⟩) hHeld ?_
  rotate_left
  · intro w hSw
    try dsimp only at hSw
    go_simp
    try with_reducible rfl
  try simp only [Act.put, List.setIfInBounds_toArray, List.set_cons_zero, List.set_cons_succ]
  refine wpAnyH_take (i := 5) (oi := { dst := some 21, op := Op.binOp BinOp.add 2 (Operand.const (Value.int IntKind.i64 48)) (Operand.tmp 20) 2, type := 2, pos := "ref.go:67", after := #[{ on := 4, ground := Ground.data }], guard := none }) (v := ?_) rfl (by kernel_rfl) (by kernel_rfl) (by kernel_rfl) (fun _ _ _ h => h) (Or.inl ⟨by rfl, ?_⟩) hHeld ?_
  rotate_left
  · intro w hSw
    try dsimp only at hSw
    go_simp
    try with_reducible rfl
  try simp only [Act.put, List.setIfInBounds_toArray, List.set_cons_zero, List.set_cons_succ]
  refine wpAnyH_take (i := 6) (oi := { dst := some 22, op := Op.convert 2 5 (Operand.tmp 21), type := 5, pos := "ref.go:67", after := #[{ on := 5, ground := Ground.data }], guard := none }) (v := ?_) rfl (by kernel_rfl) (by kernel_rfl) (by kernel_rfl) (fun _ _ _ h => h) (Or.inl ⟨by rfl, ?_⟩) hHeld ?_
  rotate_left
  · intro w hSw
    try dsimp only at hSw
    go_simp
    try with_reducible rfl
  try simp only [Act.put, List.setIfInBounds_toArray, List.set_cons_zero, List.set_cons_succ]
  refine wpAnyH_ready (rs := [2, 7]) (by kernel_rfl) (by simp) ?_
  refine AllReadyH.cons (o := { dst := some 18, op := Op.call { callee := Callee.value (Operand.func 58), args := #[Operand.tmp 17], argTypes := #[2] }, type := 9, pos := "ref.go:67", after := #[{ on := 1, ground := Ground.data }], guard := none }) rfl (fun K hK => ?_) (AllReadyH.cons (o := { dst := some 23, op := Op.buildSlice 134 1 #[(0, Operand.tmp 22)], type := 134, pos := "ref.go:67", after := #[{ on := 6, ground := Ground.data }], guard := none }) rfl (fun K hK => ?_) (AllReadyH.nil))
  · skip
    go_simp
    refine (h1 _).mono ?_; rintro e w_1 ⟨⟨s_1, rfl, hs1_1, hs2_1⟩, hb_1⟩
    have zz_1 : ¬ 9223372036854775807 < s_1.size + s2.size := by rw [HS2.out]; omega
    have HF1_1 := Lib.hid hs1_1; have HF2_1 := Lib.hid hs2_1; clear hs1_1 hs2_1
    try go_wp2_with fail
    refine hK.out _ _ (hHeld.trans (hb_1.mono hHeld.size)) (fun hHeld2 => ?_)
    clear hK K hHeld; have hHeld := hHeld2; clear hHeld2
    try simp only [Act.put, List.setIfInBounds_toArray, List.set_cons_zero, List.set_cons_succ]
    refine wpAnyH_ready (rs := [7]) (by kernel_rfl) (by simp) ?_
    refine AllReadyH.cons (o := { dst := some 23, op := Op.buildSlice 134 1 #[(0, Operand.tmp 22)], type := 134, pos := "ref.go:67", after := #[{ on := 6, ground := Ground.data }], guard := none }) rfl (fun K hK => ?_) (AllReadyH.nil)
    go_simp
    have bk_2 := Blk.new w_1 5 #[.int .u8 (48 + (d : Int))]
    refine hK.out _ _ (hHeld.alloc hHeld.size _) (fun hHeld2 => ?_)
    clear hK K hHeld; have hHeld := hHeld2; clear hHeld2
    try simp only [Act.put, List.setIfInBounds_toArray, List.set_cons_zero, List.set_cons_succ]
    refine wpAnyH_ready (rs := [8]) (by kernel_rfl) (by simp) ?_
    refine AllReadyH.cons (o := { dst := some 24, op := Op.convert 134 9 (Operand.tmp 23), type := 9, pos := "ref.go:67", after := #[{ on := 7, ground := Ground.data }], guard := none }) rfl (fun K hK => ?_) (AllReadyH.nil)
    have hcv := hcA (w_1.alloc (.cells #[.int .u8 (48 + (d : Int))] 5)) w_1.heap.size (bk_2.cell 0)
    go_simp
    refine hK.out _ _ (hHeld) (fun hHeld2 => ?_)
    clear hK K hHeld; have hHeld := hHeld2; clear hHeld2
    try simp only [Act.put, List.setIfInBounds_toArray, List.set_cons_zero, List.set_cons_succ]
    refine wpAnyH_take (i := 9) (oi := { dst := some 25, op := Op.binOp BinOp.add 9 (Operand.tmp 18) (Operand.tmp 24) 9, type := 9, pos := "ref.go:67", after := #[{ on := 2, ground := Ground.data }, { on := 8, ground := Ground.data }], guard := none }) (v := ?_) rfl (by kernel_rfl) (by kernel_rfl) (by kernel_rfl) (fun _ _ _ h => h) (Or.inl ⟨by rfl, ?_⟩) hHeld ?_
    rotate_left
    · intro w hSw
      try dsimp only at hSw
      go_simp
      try with_reducible rfl
    try simp only [Act.put, List.setIfInBounds_toArray, List.set_cons_zero, List.set_cons_succ]
    refine wpAnyH_take (i := 10) (oi := { dst := some 2, op := Op.assign (Operand.tmp 25), type := 9, pos := "ref.go:67", after := #[{ on := 9, ground := Ground.data }, { on := 2, ground := Ground.chain }, { on := 0, ground := Ground.phase }, { on := 1, ground := Ground.phase }, { on := 2, ground := Ground.phase }, { on := 3, ground := Ground.phase }, { on := 4, ground := Ground.phase }, { on := 5, ground := Ground.phase }, { on := 6, ground := Ground.phase }, { on := 7, ground := Ground.phase }, { on := 8, ground := Ground.phase }, { on := 9, ground := Ground.phase }], guard := none }) (v := ?_) rfl (by kernel_rfl) (by kernel_rfl) (by kernel_rfl) (fun _ _ _ h => h) (Or.inl ⟨by rfl, ?_⟩) hHeld ?_
    rotate_left
    · intro w hSw
      try dsimp only at hSw
      go_simp
      try with_reducible rfl
    try simp only [Act.put, List.setIfInBounds_toArray, List.set_cons_zero, List.set_cons_succ]
    refine wpAnyH_done (by kernel_rfl) ?_ _
    go_wp2_with fail
    go_ret
    exact ⟨⟨_, rfl, by rw [ByteArray.size_append, HS2.out]; omega, by have := HF2_1.out; rw [ByteArray.size_append, HS2.out]; omega⟩, hHeld⟩
  · skip
    go_simp
    have bk_4 := Blk.new Wd 5 #[.int .u8 (48 + (d : Int))]
    refine hK.out _ _ (hHeld.alloc hHeld.size _) (fun hHeld2 => ?_)
    clear hK K hHeld; have hHeld := hHeld2; clear hHeld2
    try simp only [Act.put, List.setIfInBounds_toArray, List.set_cons_zero, List.set_cons_succ]
    refine wpAnyH_ready (rs := [2, 8]) (by kernel_rfl) (by simp) ?_
    refine AllReadyH.cons (o := { dst := some 18, op := Op.call { callee := Callee.value (Operand.func 58), args := #[Operand.tmp 17], argTypes := #[2] }, type := 9, pos := "ref.go:67", after := #[{ on := 1, ground := Ground.data }], guard := none }) rfl (fun K hK => ?_) (AllReadyH.cons (o := { dst := some 24, op := Op.convert 134 9 (Operand.tmp 23), type := 9, pos := "ref.go:67", after := #[{ on := 7, ground := Ground.data }], guard := none }) rfl (fun K hK => ?_) (AllReadyH.nil))
    · skip
      go_simp
      refine (h1 _).mono ?_; rintro e w_5 ⟨⟨s_5, rfl, hs1_5, hs2_5⟩, hb_5⟩
      have zz_5 : ¬ 9223372036854775807 < s_5.size + s2.size := by rw [HS2.out]; omega
      have HF1_5 := Lib.hid hs1_5; have HF2_5 := Lib.hid hs2_5; clear hs1_5 hs2_5
      have bk_5 := bk_4.below hb_5 bk_4.lt
      try go_wp2_with fail
      refine hK.out _ _ (hHeld.trans (hb_5.mono hHeld.size)) (fun hHeld2 => ?_)
      clear hK K hHeld; have hHeld := hHeld2; clear hHeld2
      try simp only [Act.put, List.setIfInBounds_toArray, List.set_cons_zero, List.set_cons_succ]
      refine wpAnyH_ready (rs := [8]) (by kernel_rfl) (by simp) ?_
      refine AllReadyH.cons (o := { dst := some 24, op := Op.convert 134 9 (Operand.tmp 23), type := 9, pos := "ref.go:67", after := #[{ on := 7, ground := Ground.data }], guard := none }) rfl (fun K hK => ?_) (AllReadyH.nil)
      have hcv := hcA w_5 Wd.heap.size (bk_5.cell 0)
      go_simp
      refine hK.out _ _ (hHeld) (fun hHeld2 => ?_)
      clear hK K hHeld; have hHeld := hHeld2; clear hHeld2
      try simp only [Act.put, List.setIfInBounds_toArray, List.set_cons_zero, List.set_cons_succ]
      refine wpAnyH_take (i := 9) (oi := { dst := some 25, op := Op.binOp BinOp.add 9 (Operand.tmp 18) (Operand.tmp 24) 9, type := 9, pos := "ref.go:67", after := #[{ on := 2, ground := Ground.data }, { on := 8, ground := Ground.data }], guard := none }) (v := ?_) rfl (by kernel_rfl) (by kernel_rfl) (by kernel_rfl) (fun _ _ _ h => h) (Or.inl ⟨by rfl, ?_⟩) hHeld ?_
      rotate_left
      · intro w hSw
        try dsimp only at hSw
        go_simp
        try with_reducible rfl
      try simp only [Act.put, List.setIfInBounds_toArray, List.set_cons_zero, List.set_cons_succ]
      refine wpAnyH_take (i := 10) (oi := { dst := some 2, op := Op.assign (Operand.tmp 25), type := 9, pos := "ref.go:67", after := #[{ on := 9, ground := Ground.data }, { on := 2, ground := Ground.chain }, { on := 0, ground := Ground.phase }, { on := 1, ground := Ground.phase }, { on := 2, ground := Ground.phase }, { on := 3, ground := Ground.phase }, { on := 4, ground := Ground.phase }, { on := 5, ground := Ground.phase }, { on := 6, ground := Ground.phase }, { on := 7, ground := Ground.phase }, { on := 8, ground := Ground.phase }, { on := 9, ground := Ground.phase }], guard := none }) (v := ?_) rfl (by kernel_rfl) (by kernel_rfl) (by kernel_rfl) (fun _ _ _ h => h) (Or.inl ⟨by rfl, ?_⟩) hHeld ?_
      rotate_left
      · intro w hSw
        try dsimp only at hSw
        go_simp
        try with_reducible rfl
      try simp only [Act.put, List.setIfInBounds_toArray, List.set_cons_zero, List.set_cons_succ]
      refine wpAnyH_done (by kernel_rfl) ?_ _
      go_wp2_with fail
      go_ret
      exact ⟨⟨_, rfl, by rw [ByteArray.size_append, HS2.out]; omega, by have := HF2_5.out; rw [ByteArray.size_append, HS2.out]; omega⟩, hHeld⟩
    · skip
      have hcv := hcA (Wd.alloc (.cells #[.int .u8 (48 + (d : Int))] 5)) Wd.heap.size (bk_4.cell 0)
      go_simp
      refine hK.out _ _ (hHeld) (fun hHeld2 => ?_)
      clear hK K hHeld; have hHeld := hHeld2; clear hHeld2
      try simp only [Act.put, List.setIfInBounds_toArray, List.set_cons_zero, List.set_cons_succ]
      refine wpAnyH_ready (rs := [2]) (by kernel_rfl) (by simp) ?_
      refine AllReadyH.cons (o := { dst := some 18, op := Op.call { callee := Callee.value (Operand.func 58), args := #[Operand.tmp 17], argTypes := #[2] }, type := 9, pos := "ref.go:67", after := #[{ on := 1, ground := Ground.data }], guard := none }) rfl (fun K hK => ?_) (AllReadyH.nil)
      go_simp
      refine (h1 _).mono ?_; rintro e w_8 ⟨⟨s_8, rfl, hs1_8, hs2_8⟩, hb_8⟩
      have zz_8 : ¬ 9223372036854775807 < s_8.size + s2.size := by rw [HS2.out]; omega
      have HF1_8 := Lib.hid hs1_8; have HF2_8 := Lib.hid hs2_8; clear hs1_8 hs2_8
      have bk_8 := bk_4.below hb_8 bk_4.lt
      try go_wp2_with fail
      refine hK.out _ _ (hHeld.trans (hb_8.mono hHeld.size)) (fun hHeld2 => ?_)
      clear hK K hHeld; have hHeld := hHeld2; clear hHeld2
      try simp only [Act.put, List.setIfInBounds_toArray, List.set_cons_zero, List.set_cons_succ]
      refine wpAnyH_take (i := 9) (oi := { dst := some 25, op := Op.binOp BinOp.add 9 (Operand.tmp 18) (Operand.tmp 24) 9, type := 9, pos := "ref.go:67", after := #[{ on := 2, ground := Ground.data }, { on := 8, ground := Ground.data }], guard := none }) (v := ?_) rfl (by kernel_rfl) (by kernel_rfl) (by kernel_rfl) (fun _ _ _ h => h) (Or.inl ⟨by rfl, ?_⟩) hHeld ?_
      rotate_left
      · intro w hSw
        try dsimp only at hSw
        go_simp
        try with_reducible rfl
      try simp only [Act.put, List.setIfInBounds_toArray, List.set_cons_zero, List.set_cons_succ]
      refine wpAnyH_take (i := 10) (oi := { dst := some 2, op := Op.assign (Operand.tmp 25), type := 9, pos := "ref.go:67", after := #[{ on := 9, ground := Ground.data }, { on := 2, ground := Ground.chain }, { on := 0, ground := Ground.phase }, { on := 1, ground := Ground.phase }, { on := 2, ground := Ground.phase }, { on := 3, ground := Ground.phase }, { on := 4, ground := Ground.phase }, { on := 5, ground := Ground.phase }, { on := 6, ground := Ground.phase }, { on := 7, ground := Ground.phase }, { on := 8, ground := Ground.phase }, { on := 9, ground := Ground.phase }], guard := none }) (v := ?_) rfl (by kernel_rfl) (by kernel_rfl) (by kernel_rfl) (fun _ _ _ h => h) (Or.inl ⟨by rfl, ?_⟩) hHeld ?_
      rotate_left
      · intro w hSw
        try dsimp only at hSw
        go_simp
        try with_reducible rfl
      try simp only [Act.put, List.setIfInBounds_toArray, List.set_cons_zero, List.set_cons_succ]
      refine wpAnyH_done (by kernel_rfl) ?_ _
      go_wp2_with fail
      go_ret
      exact ⟨⟨_, rfl, by rw [ByteArray.size_append, HS2.out]; omega, by have := HF2_8.out; rw [ByteArray.size_append, HS2.out]; omega⟩, hHeld⟩
theorem rnum_any (n : Nat) (w : World) (hn : n < 1000) : Calls Tryd.prog 58 #[.int .i64 (n : Int)] w (TxP w 3) := by
  have up : ∀ {a b : Nat} {w : World} {e : Ending} {w' : World}, a ≤ b → TxP w a e w' → TxP w b e w' := fun h q => by
    obtain ⟨⟨s, h1, h2, h3⟩, h4⟩ := q; exact ⟨⟨s, h1, h2, Nat.le_trans h3 h⟩, h4⟩
  by_cases h1 : n < 10
  · exact (rnum_1 n w h1).mono fun e w' => up (by decide)
  · by_cases h2 : n < 100
    · exact (rnum_s 1 n w (by omega) (by omega) (by decide) (fun w => rnum_1 (n / 10) w (by omega))).mono fun e w' => up (by decide)
    · exact rnum_s 2 n w (by omega) (by omega) (by decide) (fun w => rnum_s 1 (n / 10) w (by omega) (by omega) (by decide) (fun w => rnum_1 (n / 10 / 10) w (by omega)))
set_option maxRecDepth 20000 in
set_option maxHeartbeats 3200000 in
theorem rtwo_any (n : Nat) (w : World) (hn : n < 100) : Calls Tryd.prog 59 #[.int .i64 (n : Int)] w (TxP w 2) := by
  have t1 : (n : Int).tdiv 10 = ((n / 10 : Nat) : Int) := by rw [Int.tdiv_eq_ediv_of_nonneg (by omega)]; omega
  have t2 : (n : Int).tmod 10 = ((n % 10 : Nat) : Int) := by rw [Int.tmod_eq_emod_of_nonneg (by omega)]; omega
  have b1 : n / 10 < 10 := by omega
  have b2 : n % 10 < 10 := by omega
  generalize n % 10 = d at *
  generalize n / 10 = q at *
  have hw : IntKind.u8.wrap (48 + (d : Int)) = (48 + (d : Int)) := by simp [IntKind.wrap, IntKind.bits, IntKind.signed]; omega
  have hw2 : IntKind.u8.wrap (48 + (q : Int)) = (48 + (q : Int)) := by simp [IntKind.wrap, IntKind.bits, IntKind.signed]; omega
  have y := Blk.new w 5 #[.int .u8 (48 + (q : Int)), .int .u8 (48 + (d : Int))]
  have hcv := conv_2 (w.alloc (.cells #[.int .u8 (48 + (q : Int)), .int .u8 (48 + (d : Int))] 5)) w.heap.size (48 + (q : Int)) (48 + (d : Int)) (y.cell 0) (y.cell 1)
  have HZ := Lib.hid (show (⟨#[UInt8.ofNat (48 + (q : Int)).toNat, UInt8.ofNat (48 + (d : Int)).toNat]⟩ : ByteArray).size = 2 from rfl)
  generalize (⟨#[UInt8.ofNat (48 + (q : Int)).toNat, UInt8.ofNat (48 + (d : Int)).toNat]⟩ : ByteArray) = s2 at *
  have c1 : (q : Int) ≤ 9 := by omega
  have c2 : (d : Int) ≤ 9 := by omega
  clear y
  go_enter Tryd.func59, Tryd.ntmps59
  go_wp2_with fail
  go_ret
  exact ⟨⟨_, rfl, by rw [HZ.out]; decide, by rw [HZ.out]; decide⟩, (Below.refl _ w).alloc (Nat.le_refl _) _⟩
/-- a text is answered, or none -/
def TyP (w : World) (m : Nat) (e : Ending) (w' : World) : Prop := (∃ s : ByteArray, e = .returned (.string s) ∧ s.size ≤ m) ∧ Below w.heap.size w w'
set_option maxRecDepth 20000 in
set_option maxHeartbeats 6400000 in
theorem rtext_pos (n : Nat) (w : World) (hn : n ≤ 604800) : Calls Tryd.prog 41 #[.int .i64 (n : Int)] w (TyP w 20) := by
  have ht := fun w => rtime_any (n : Int) w
  rw [decide_eq_true (show -604800 ≤ (n : Int) ∧ (n : Int) ≤ 604800 by omega)] at ht
  have h0 : ¬ (n : Int) < 0 := by omega
  have t1 : (n : Int).tdiv 3600 = ((n / 3600 : Nat) : Int) := by rw [Int.tdiv_eq_ediv_of_nonneg (by omega)]; omega
  have t2 : (n : Int).tdiv 60 = ((n / 60 : Nat) : Int) := by rw [Int.tdiv_eq_ediv_of_nonneg (by omega)]; omega
  have t3 : ((n / 60 : Nat) : Int).tmod 60 = ((n / 60 % 60 : Nat) : Int) := by rw [Int.tmod_eq_emod_of_nonneg (by omega)]; omega
  have t4 : (n : Int).tmod 60 = ((n % 60 : Nat) : Int) := by rw [Int.tmod_eq_emod_of_nonneg (by omega)]; omega
  have hA := fun w => rnum_any (n / 3600) w (by omega)
  have hB := fun w => rtwo_any (n / 60 % 60) w (by omega)
  have hC := fun w => rtwo_any (n % 60) w (by omega)
  have w1 : IntKind.i64.wrap ((n / 3600 : Nat) : Int) = ((n / 3600 : Nat) : Int) := by simp [IntKind.wrap, IntKind.bits, IntKind.signed]; omega
  have w2 : IntKind.i64.wrap ((n / 60 : Nat) : Int) = ((n / 60 : Nat) : Int) := by simp [IntKind.wrap, IntKind.bits, IntKind.signed]; omega
  generalize n / 60 % 60 = p at *
  generalize n / 60 = q at *
  generalize n / 3600 = r at *
  generalize n % 60 = d at *
  go_enter Tryd.func41, Tryd.ntmps41
  go_wp2_with fail
  refine (ht _).mono ?_; rintro e w1 ⟨rfl, rfl⟩
  go_wp2_with fail
  refine (hA _).mono ?_; rintro e w2 ⟨⟨s1, rfl, -, hs1⟩, b1⟩
  have z1 : ¬ 9223372036854775807 < s1.size + 1 := by omega
  go_wp2_with fail
  refine (hB _).mono ?_; rintro e w3 ⟨⟨s2, rfl, -, hs2⟩, b2⟩
  have z2 : ¬ 9223372036854775807 < s1.size + 1 + s2.size := by omega
  have b2' := b1.trans (b2.mono b1.size)
  clear b1 b2
  by_cases hd : d = 0
  · have hd2 : ¬ (0 : Int) < (d : Int) := by omega
    go_wp2_with fail
    go_ret
    exact ⟨⟨_, rfl, by have e1 : (⟨#[58]⟩ : ByteArray).size = 1 := rfl; have e2 : (⟨#[45]⟩ : ByteArray).size = 1 := rfl; simp only [ByteArray.size_append, e1, e2]; omega⟩, b2'⟩
  · have hd2 : (0 : Int) < (d : Int) := by omega
    go_wp2_with fail
    refine (hC _).mono ?_; rintro e w4 ⟨⟨s3, rfl, -, hs3⟩, b3⟩
    have z3 : ¬ 9223372036854775807 < 1 + s3.size := by omega
    have z4 : ¬ 9223372036854775807 < s1.size + 1 + s2.size + (1 + s3.size) := by omega
    go_wp2_with fail
    go_ret
    exact ⟨⟨_, rfl, by have e1 : (⟨#[58]⟩ : ByteArray).size = 1 := rfl; have e2 : (⟨#[45]⟩ : ByteArray).size = 1 := rfl; simp only [ByteArray.size_append, e1, e2]; omega⟩, b2'.trans (b3.mono b2'.size)⟩
set_option maxRecDepth 20000 in
set_option maxHeartbeats 6400000 in
theorem rtext_any (t : Int) (w : World) : Calls Tryd.prog 41 #[.int .i64 t] w (TyP w 30) := by
  by_cases h : -604800 ≤ t ∧ t ≤ 604800
  · by_cases h0 : t < 0
    · have ht := fun w => rtime_any t w
      rw [decide_eq_true h] at ht
      have hp := fun w => rtext_pos (-t).toNat w (by omega)
      rw [show (((-t).toNat : Nat) : Int) = -t by omega] at hp
      have hw : IntKind.i64.wrap (-t) = -t := by simp [IntKind.wrap, IntKind.bits, IntKind.signed]; omega
      go_enter Tryd.func41, Tryd.ntmps41
      go_wp2_with fail
      refine (ht _).mono ?_; rintro e w1 ⟨rfl, rfl⟩
      go_wp2_with fail
      refine (hp _).mono ?_; rintro e w2 ⟨⟨s1, rfl, hs1⟩, b1⟩
      have z1 : ¬ 9223372036854775807 < 1 + s1.size := by omega
      go_wp2_with fail
      go_ret
      exact ⟨⟨_, rfl, by have e1 : (⟨#[58]⟩ : ByteArray).size = 1 := rfl; have e2 : (⟨#[45]⟩ : ByteArray).size = 1 := rfl; simp only [ByteArray.size_append, e1, e2]; omega⟩, b1⟩
    · have hp := rtext_pos t.toNat w (by omega)
      rw [show ((t.toNat : Nat) : Int) = t by omega] at hp
      exact hp.mono fun e w' q => ⟨by obtain ⟨s, h1, h2⟩ := q.1; exact ⟨s, h1, by omega⟩, q.2⟩
  · have ht := rtime_any t w
    rw [decide_eq_false h] at ht
    clear h
    go_enter Tryd.func41, Tryd.ntmps41
    go_wp2_with fail
    refine ht.mono ?_; rintro e w1 ⟨rfl, rfl⟩
    go_wp2_with fail
    go_ret
    exact ⟨⟨_, rfl, by decide⟩, Below.refl _ _⟩
end Go.Proofs.YtoklcbkphipmkaaDoor.Oc
