/-
  The footer's letters and names, and what writes them: walked.
-/
import Derived.Test.YtgdgkgeoigljcaaDoorFoM
import Derived.Test.YtgdgkgeoigljcaaDoorShf
import Derived.Test.YtgdgkgeoigljcaaDoorQm
import Derived.Lib.AppendStr
import Derived.Lib.LaidTab
import Derived.Laws.OwnMore
import Derived.Deep.QuietTactic
namespace Go.Proofs.YtgdgkgeoigljcaaDoor.Fo
open Go.ChangeShapes Go.WideShapes Go.ChangeAt Go.RowKit Go.Shelf
open Go.Proofs.YtgdgkgeoigljcaaDoor
open Go.Proofs.YtgdgkgeoigljcaaDoor.Wd
open Go.Proofs.YtgdgkgeoigljcaaDoor.Rec
open Go.Proofs.YtgdgkgeoigljcaaDoor.Tb (Rc)
open Go.Proofs.YtgdgkgeoigljcaaDoor.Civ (Tab)
open Go.Lib (byteCells)
set_option linter.unusedVariables false
set_option linter.unusedSimpArgs false
theorem letter_any (b : UInt8) (w : World) : Calls Tryd.prog 39 #[.int .u8 (b.toNat : Int)] w fun e w' => e = .returned (.bool (letB b)) ∧ w' = w := by
  have hb := b.toNat_lt
  unfold letB
  generalize b.toNat = n at *
  by_cases h1 : 97 ≤ n
  · have h1' : (97 : Int) ≤ (n : Int) := by omega
    by_cases h2 : n ≤ 122
    · have h2' : (n : Int) ≤ 122 := by omega
      rw [decide_eq_true (show (97 ≤ n ∧ n ≤ 122) ∨ (65 ≤ n ∧ n ≤ 90) by omega)]
      go_enter Tryd.func39, Tryd.ntmps39
      go_wp2
      go_ret
      exact ⟨rfl, rfl⟩
    · have h2' : ¬ (n : Int) ≤ 122 := by omega
      have h3' : (65 : Int) ≤ (n : Int) := by omega
      have h4' : ¬ (n : Int) ≤ 90 := by omega
      rw [decide_eq_false (show ¬ ((97 ≤ n ∧ n ≤ 122) ∨ (65 ≤ n ∧ n ≤ 90)) by omega)]
      go_enter Tryd.func39, Tryd.ntmps39
      go_wp2
      go_ret
      exact ⟨rfl, rfl⟩
  · have h1' : ¬ (97 : Int) ≤ (n : Int) := by omega
    by_cases h3 : 65 ≤ n
    · have h3' : (65 : Int) ≤ (n : Int) := by omega
      by_cases h4 : n ≤ 90
      · have h4' : (n : Int) ≤ 90 := by omega
        rw [decide_eq_true (show (97 ≤ n ∧ n ≤ 122) ∨ (65 ≤ n ∧ n ≤ 90) by omega)]
        go_enter Tryd.func39, Tryd.ntmps39
        go_wp2
        go_ret
        exact ⟨rfl, rfl⟩
      · have h4' : ¬ (n : Int) ≤ 90 := by omega
        rw [decide_eq_false (show ¬ ((97 ≤ n ∧ n ≤ 122) ∨ (65 ≤ n ∧ n ≤ 90)) by omega)]
        go_enter Tryd.func39, Tryd.ntmps39
        go_wp2
        go_ret
        exact ⟨rfl, rfl⟩
    · have h3' : ¬ (65 : Int) ≤ (n : Int) := by omega
      rw [decide_eq_false (show ¬ ((97 ≤ n ∧ n ≤ 122) ∨ (65 ≤ n ∧ n ≤ 90)) by omega)]
      go_enter Tryd.func39, Tryd.ntmps39
      go_wp2
      go_ret
      exact ⟨rfl, rfl⟩
theorem digit_any (b : UInt8) (w : World) : Calls Tryd.prog 40 #[.int .u8 (b.toNat : Int)] w fun e w' => e = .returned (.bool (dgB b)) ∧ w' = w := by
  have hb := b.toNat_lt
  unfold dgB
  generalize b.toNat = n at *
  by_cases h1 : 48 ≤ n
  · have h1' : (48 : Int) ≤ (n : Int) := by omega
    by_cases h2 : n ≤ 57
    · have h2' : (n : Int) ≤ 57 := by omega
      rw [decide_eq_true (show 48 ≤ n ∧ n ≤ 57 by omega)]
      go_enter Tryd.func40, Tryd.ntmps40
      go_wp2
      go_ret
      exact ⟨rfl, rfl⟩
    · have h2' : ¬ (n : Int) ≤ 57 := by omega
      rw [decide_eq_false (show ¬ (48 ≤ n ∧ n ≤ 57) by omega)]
      go_enter Tryd.func40, Tryd.ntmps40
      go_wp2
      go_ret
      exact ⟨rfl, rfl⟩
  · have h1' : ¬ (48 : Int) ≤ (n : Int) := by omega
    rw [decide_eq_false (show ¬ (48 ≤ n ∧ n ≤ 57) by omega)]
    go_enter Tryd.func40, Tryd.ntmps40
    go_wp2
    go_ret
    exact ⟨rfl, rfl⟩
set_option maxRecDepth 20000 in
set_option maxHeartbeats 3200000 in
theorem letters_any (s : ByteArray) (w : World) (hs : s.size ≤ maxLen) : Calls Tryd.prog 47 #[.string s] w fun e w' => e = .returned (.int .i64 (ltN (L s) : Int)) ∧ w' = w := by
  unfold maxLen at hs
  go_enter Tryd.func47, Tryd.ntmps47
  go_wp2
  go_loopw [3] (fun i w' => ∃ k : Nat, i = .int .i64 (k : Int) ∧ k ≤ s.size ∧ (∀ b ∈ (L s).take k, letB b = true) ∧ w' = w) (fun i _ => s.size - (intOf i).toNat)
  case atStart => exact ⟨0, rfl, Nat.zero_le _, (fun b hb => by simp at hb), rfl⟩
  case round =>
    obtain ⟨k, rfl, hk, hall, rfl⟩ := hrel
    have HA := Lib.hid hall; clear hall
    by_cases hlt : k < s.size
    · have hlt' : (k : Int) < (s.size : Int) := by omega
      have hkl : k < (L s).length := by rw [L_len]; exact hlt
      have hq := letter_any s[k]
      cases hb : letB s[k] with
      | true =>
        have HT := Lib.hid (show ∀ b ∈ (L s).take (k + 1), letB b = true from fun b hb' => by
          rw [List.take_succ_eq_append_getElem hkl] at hb'
          rcases List.mem_append.1 hb' with q | q
          · exact HA.out b q
          · rw [List.mem_singleton.1 q]; exact hb)
        rw [hb] at hq
        clear HA
        go_wp2_with (go_at_call 39; refine (hq _).mono ?_; rintro e w1 ⟨rfl, rfl⟩)
        go_roundw
        case rel => exact ⟨k + 1, by go_num, by omega, HT.out, by trivial⟩
        case measure => simp [intOf]; omega
      | false =>
        have HE := Lib.hid (show ltN (L s) = k from ltN_at _ _ HA.out (fun h => hb) (by rw [L_len]; omega))
        rw [hb] at hq
        clear HA
        go_wp2_with (go_at_call 39; refine (hq _).mono ?_; rintro e w1 ⟨rfl, rfl⟩)
        go_ret
        exact ⟨by rw [HE.out]; rfl, rfl⟩
    · obtain rfl : k = s.size := by omega
      have hlt' : ¬ (s.size : Int) < (s.size : Int) := by omega
      have HE := Lib.hid (show ltN (L s) = s.size from ltN_at _ _ HA.out (fun h => by rw [L_len] at h; omega) (by rw [L_len]; omega))
      clear HA
      go_wp2
      go_ret
      exact ⟨by rw [HE.out]; rfl, rfl⟩
theorem name_no {l : List UInt8} {k : Nat} (hk : k < l.length) (h : nmC l[k] = false) : nameB l = false := by
  unfold nameB
  rw [show l.all nmC = false from List.all_eq_false.2 ⟨_, List.getElem_mem hk, by rw [h]; decide⟩, Bool.and_false]
set_option maxRecDepth 20000 in
set_option maxHeartbeats 6400000 in
theorem fname_any (s : ByteArray) (w : World) (hs : s.size ≤ maxLen) : Calls Tryd.prog 10 #[.string s] w fun e w' => e = .returned (.bool (nameB (L s))) ∧ w' = w := by
  unfold maxLen at hs
  by_cases h1 : s.size < 3
  · have h1' : (s.size : Int) < 3 := by omega
    have HE := Lib.hid (show nameB (L s) = false by unfold nameB; rw [L_len, decide_eq_false (by omega)]; rfl)
    go_enter Tryd.func10, Tryd.ntmps10
    go_wp2
    go_ret
    exact ⟨by rw [HE.out]; rfl, rfl⟩
  have h1' : ¬ (s.size : Int) < 3 := by omega
  by_cases h2 : 32 < s.size
  · have h2' : (32 : Int) < (s.size : Int) := by omega
    have HE := Lib.hid (show nameB (L s) = false by unfold nameB; rw [L_len, decide_eq_false (by omega)]; rfl)
    go_enter Tryd.func10, Tryd.ntmps10
    go_wp2
    go_ret
    exact ⟨by rw [HE.out]; rfl, rfl⟩
  have h2' : ¬ (32 : Int) < (s.size : Int) := by omega
  have HN := Lib.hid (fun k hk q => name_no (l := L s) (k := k) hk q)
  have HY := Lib.hid (fun (q : (L s).all nmC = true) => show nameB (L s) = true by unfold nameB; rw [L_len, decide_eq_true (by omega), q]; rfl)
  generalize nameB (L s) = R at *
  go_enter Tryd.func10, Tryd.ntmps10
  go_wp2
  go_loopw [3] (fun i w' => ∃ k : Nat, i = .int .i64 (k : Int) ∧ k ≤ s.size ∧ ((L s).take k).all nmC = true ∧ w' = w) (fun i _ => s.size - (intOf i).toNat)
  case atStart => exact ⟨0, rfl, Nat.zero_le _, by simp, rfl⟩
  case round =>
    obtain ⟨k, rfl, hk, hall, rfl⟩ := hrel
    have HA := Lib.hid hall; clear hall
    by_cases hlt : k < s.size
    · have hlt' : (k : Int) < (s.size : Int) := by omega
      have hkl : k < (L s).length := by rw [L_len]; exact hlt
      have hq := letter_any s[k]
      have hd := digit_any s[k]
      have hat : (L s)[k] = s[k] := rfl
      have hbv := s[k].toNat_lt
      have ht : nmC s[k] = true → ((L s).take (k + 1)).all nmC = true := fun q => by
        rw [List.take_succ_eq_append_getElem hkl, List.all_append, HA.out, hat]; simp [q]
      have hn : nmC s[k] = false → R = false := fun q => HN.out k hkl (by rw [hat]; exact q)
      have HT := Lib.hid ht; have HF := Lib.hid hn
      clear ht hn HA
      have hdef : nmC s[k] = (letB s[k] || (dgB s[k] || (s[k] == 43 || s[k] == 45))) := rfl
      have e43 : (s[k] == 43) = ((s[k].toNat : Int) == 43) := by rw [Bool.eq_iff_iff, beq_iff_eq, beq_iff_eq, ← UInt8.toNat_inj]; show s[k].toNat = 43 ↔ _; omega
      have e45 : (s[k] == 45) = ((s[k].toNat : Int) == 45) := by rw [Bool.eq_iff_iff, beq_iff_eq, beq_iff_eq, ← UInt8.toNat_inj]; show s[k].toNat = 45 ↔ _; omega
      rw [e43, e45] at hdef
      have HD := Lib.hid hdef
      clear hdef e43 e45 hat hbv
      cases c1 : letB s[k] with
      | true =>
        have HX := Lib.hid (HT.out (by rw [HD.out, c1]; rfl))
        rw [c1] at hq
        clear HT HF HD c1
        go_wp2_with (go_at_call 39; refine (hq _).mono ?_; rintro e w1 ⟨rfl, rfl⟩)
        go_roundw
        case rel => exact ⟨k + 1, by go_num, by omega, HX.out, by trivial⟩
        case measure => simp [intOf]; omega
      | false =>
        rw [c1] at hq
        cases c2 : dgB s[k] with
        | true =>
          have HX := Lib.hid (HT.out (by rw [HD.out, c1, c2]; rfl))
          rw [c2] at hd
          clear HT HF HD c1 c2
          go_wp2_with (first | (go_at_call 39; refine (hq _).mono ?_; rintro e w1 ⟨rfl, rfl⟩) | (go_at_call 40; refine (hd _).mono ?_; rintro e w1 ⟨rfl, rfl⟩))
          go_roundw
          case rel => exact ⟨k + 1, by go_num, by omega, HX.out, by trivial⟩
          case measure => simp [intOf]; omega
        | false =>
          rw [c2] at hd
          cases c3 : ((s[k].toNat : Int) == 43) with
          | true =>
            have HX := Lib.hid (HT.out (by rw [HD.out, c1, c2, c3]; rfl))
            have c3' : ((s[k].toNat : Int) != 43) = false := by simp only [bne, c3]; rfl
            clear HT HF HD c1 c2
            go_wp2_with (first | (go_at_call 39; refine (hq _).mono ?_; rintro e w1 ⟨rfl, rfl⟩) | (go_at_call 40; refine (hd _).mono ?_; rintro e w1 ⟨rfl, rfl⟩))
            go_roundw
            case rel => exact ⟨k + 1, by go_num, by omega, HX.out, by trivial⟩
            case measure => simp [intOf]; omega
          | false =>
            have c3' : ((s[k].toNat : Int) != 43) = true := by simp only [bne, c3]; rfl
            cases c4 : ((s[k].toNat : Int) == 45) with
            | true =>
              have HX := Lib.hid (HT.out (by rw [HD.out, c1, c2, c3, c4]; rfl))
              have c4' : ((s[k].toNat : Int) != 45) = false := by simp only [bne, c4]; rfl
              clear HT HF HD c1 c2
              go_wp2_with (first | (go_at_call 39; refine (hq _).mono ?_; rintro e w1 ⟨rfl, rfl⟩) | (go_at_call 40; refine (hd _).mono ?_; rintro e w1 ⟨rfl, rfl⟩))
              go_roundw
              case rel => exact ⟨k + 1, by go_num, by omega, HX.out, by trivial⟩
              case measure => simp [intOf]; omega
            | false =>
              have HX := Lib.hid (HF.out (by rw [HD.out, c1, c2, c3, c4]; rfl))
              have c4' : ((s[k].toNat : Int) != 45) = true := by simp only [bne, c4]; rfl
              clear HT HF HD c1 c2
              go_wp2_with (first | (go_at_call 39; refine (hq _).mono ?_; rintro e w1 ⟨rfl, rfl⟩) | (go_at_call 40; refine (hd _).mono ?_; rintro e w1 ⟨rfl, rfl⟩))
              go_ret
              exact ⟨by rw [HX.out]; rfl, rfl⟩
    · obtain rfl : k = s.size := by omega
      have hlt' : ¬ (s.size : Int) < (s.size : Int) := by omega
      have HX := Lib.hid (HY.out (by have := HA.out; rwa [List.take_of_length_le (by rw [L_len]; exact Nat.le_refl _)] at this))
      clear HA
      go_wp2
      go_ret
      exact ⟨by rw [HX.out]; rfl, rfl⟩
end Go.Proofs.YtgdgkgeoigljcaaDoor.Fo
