/-
  DAYS' NUMBERS, WALKED: what one or two digits tell.
-/
import Derived.Test.YtginidedeefcdaaDoorTpL
namespace Go.Proofs.YtginidedeefcdaaDoor.Wk
open Go.ChangeShapes Go.WideShapes Go.ChangeAt Go.RowKit
open Go.Proofs.YtginidedeefcdaaDoor
open Go.Proofs.YtginidedeefcdaaDoor.Wd
set_option linter.unusedVariables false
def digB (b : UInt8) : Bool := decide (48 ≤ b.toNat ∧ b.toNat ≤ 57)
def numL (l : List UInt8) : Int := l.foldl (fun n b => n * 10 + ((b.toNat : Int) - 48)) 0
def numV (s : ByteArray) : Int := if s.size < 1 ∨ 2 < s.size then -1 else if (L s).all digB = true then numL (L s) else -1
theorem num_take {s : ByteArray} {k : Nat} (h : k < s.size) : numL ((L s).take (k + 1)) = numL ((L s).take k) * 10 + ((s[k].toNat : Int) - 48) := by
  have hl : k < (L s).length := by rw [L_len]; exact h
  rw [List.take_succ_eq_append_getElem hl]
  unfold numL
  rw [List.foldl_append]; rfl
theorem all_take {s : ByteArray} {k : Nat} (h : k < s.size) : ((L s).take (k + 1)).all digB = (((L s).take k).all digB && digB s[k]) := by
  have hl : k < (L s).length := by rw [L_len]; exact h
  rw [List.take_succ_eq_append_getElem hl, List.all_append]; simp; rfl
theorem all_no {s : ByteArray} {k : Nat} (h : k < s.size) (hb : digB s[k] = false) : (L s).all digB = false := by
  have hl : k < (L s).length := by rw [L_len]; exact h
  rw [List.all_eq_false]
  exact ⟨(L s)[k], List.getElem_mem hl, by show ¬ digB s[k] = true; rw [hb]; decide⟩
set_option maxRecDepth 20000 in
set_option maxHeartbeats 1600000 in
theorem number_any (s : ByteArray) (w : World) :
    Calls Tryd.prog 92 #[.string s] w fun e w' => e = .returned (.int .i64 (numV s)) ∧ w' = w := by
  by_cases h : s.size < 1 ∨ 2 < s.size
  · have hv := Lib.hid (show numV s = -1 by unfold numV; rw [if_pos h])
    have hc : (s.size : Int) < 1 ∨ (¬ (s.size : Int) < 1 ∧ (2 : Int) < (s.size : Int)) := by omega
    clear h
    rcases hc with h1 | ⟨h1, h2⟩
    all_goals
      go_enter Tryd.func92, Tryd.ntmps92
      go_wp2
      go_ret
      exact ⟨Civ.ret_int hv.out.symm, rfl⟩
  · have h1 : ¬ (s.size : Int) < 1 := by omega
    have h2 : ¬ (2 : Int) < (s.size : Int) := by omega
    have HV := Lib.hid (show numV s = if (L s).all digB = true then numL (L s) else -1 by unfold numV; rw [if_neg h])
    have hs2 : s.size ≤ 2 := by omega
    clear h
    go_enter Tryd.func92, Tryd.ntmps92
    go_wp2
    go_loopw [3, 4, 15] (fun a _ i w' => ∃ (k : Nat) (z : Int), i = .int .i64 k ∧ k ≤ s.size ∧ a = .int .i64 z ∧ z = numL ((L s).take k) ∧ 0 ≤ z ∧ ((k = 0 ∧ z = 0) ∨ (k = 1 ∧ z ≤ 9) ∨ (k = 2 ∧ z ≤ 99)) ∧ ((L s).take k).all digB = true ∧ w' = w) (fun _ _ i _ => s.size - (intOf i).toNat)
    case atStart => exact ⟨0, 0, rfl, Nat.zero_le _, rfl, rfl, by decide, .inl ⟨rfl, rfl⟩, rfl, rfl⟩
    case round =>
      obtain ⟨k, z, rfl, hk, rfl, hz, hz0, hz1, hall, rfl⟩ := hrel
      have HZ := Lib.hid hz; have HA := Lib.hid hall; clear hz hall
      by_cases hlt : k < s.size
      · have hlt' : (k : Int) < (s.size : Int) := by omega
        have T1 := Lib.hid (num_take hlt)
        have T2 := Lib.hid (all_take hlt)
        have NO := Lib.hid (all_no hlt)
        have hb := s[k].toNat_lt
        have hz9 : z ≤ 9 := by omega
        have hk1 : k ≤ 1 := by omega
        have hd : digB s[k] = decide (48 ≤ s[k].toNat ∧ s[k].toNat ≤ 57) := rfl
        rw [hd] at T2 NO
        have hc : s[k].toNat < 48 ∨ (¬ s[k].toNat < 48 ∧ 57 < s[k].toNat) ∨ (¬ s[k].toNat < 48 ∧ ¬ 57 < s[k].toNat) := by omega
        rcases hc with g1 | ⟨g1, g2⟩ | ⟨g1, g2⟩
        · have g1' : (s[k].toNat : Int) < 48 := by omega
          have hv := Lib.hid (show numV s = -1 by rw [HV.out, NO.out (by rw [decide_eq_false_iff_not]; omega)]; rfl)
          clear g1 hd
          go_wp2
          go_ret
          exact ⟨Civ.ret_int hv.out.symm, rfl⟩
        · have g1' : ¬ (s[k].toNat : Int) < 48 := by omega
          have g2' : (57 : Int) < (s[k].toNat : Int) := by omega
          have hv := Lib.hid (show numV s = -1 by rw [HV.out, NO.out (by rw [decide_eq_false_iff_not]; omega)]; rfl)
          clear g1 g2 hd
          go_wp2
          go_ret
          exact ⟨Civ.ret_int hv.out.symm, rfl⟩
        · have g1' : ¬ (s[k].toNat : Int) < 48 := by omega
          have g2' : ¬ (57 : Int) < (s[k].toNat : Int) := by omega
          have TD := Lib.hid (show ((L s).take (k + 1)).all digB = true by rw [T2.out, HA.out, Bool.true_and, decide_eq_true_iff]; omega)
          clear hd
          go_wp2
          go_roundw
          case rel => exact ⟨k + 1, z * 10 + ((s[k].toNat : Int) - 48), by go_num, by omega, rfl, by rw [T1.out, HZ.out], by omega, by omega, TD.out, trivial⟩
          case measure => simp [intOf]; omega
      · obtain rfl : k = s.size := by omega
        have hlt' : ¬ (s.size : Int) < (s.size : Int) := by omega
        have ha := HA.out; have hz := HZ.out
        rw [List.take_of_length_le (by rw [L_len]; exact Nat.le_refl _)] at ha hz
        have hv := Lib.hid (show numV s = z by rw [HV.out, if_pos ha, hz])
        clear ha hz
        go_wp2
        go_ret
        exact ⟨Civ.ret_int hv.out.symm, rfl⟩
end Go.Proofs.YtginidedeefcdaaDoor.Wk
