/-
  The document's footer texts: letters, signs, names: walked.
-/
import Derived.Test.YtgdgkgeoigljcaaDoorFoC
import Derived.Test.YtgdgkgeoigljcaaDoorFoA
namespace Go.Proofs.YtgdgkgeoigljcaaDoor.Fo
open Go.ChangeShapes Go.WideShapes Go.ChangeAt Go.RowKit Go.Shelf
open Go.Proofs.YtgdgkgeoigljcaaDoor
open Go.Proofs.YtgdgkgeoigljcaaDoor.Wd
set_option linter.unusedVariables false
set_option linter.unusedSimpArgs false
/-- whether all bytes are such -/
def allB (P : UInt8 → Bool) (l : List UInt8) : Bool := l.all P
theorem rlet_any_yes {b : UInt8} (h : letB b = true) : (65 ≤ b.toNat ∧ b.toNat ≤ 90) ∨ (97 ≤ b.toNat ∧ b.toNat ≤ 122) := by
  have hb := b.toNat_lt
  unfold letB at h; rw [decide_eq_true_eq] at h; omega
theorem rlet_any_no {b : UInt8} (h : letB b = false) : (0 ≤ b.toNat ∧ b.toNat ≤ 64) ∨ (91 ≤ b.toNat ∧ b.toNat ≤ 96) ∨ (123 ≤ b.toNat ∧ b.toNat ≤ 255) := by
  have hb := b.toNat_lt
  unfold letB at h; rw [decide_eq_false_iff_not] at h; omega
set_option maxRecDepth 20000 in
set_option maxHeartbeats 6400000 in
/-- whether a text has letters alone -/
theorem rlet_any (s : ByteArray) (w : World) (hs : s.size ≤ maxLen) : Calls Tryd.prog 52 #[.string s] w fun e w' => e = .returned (.bool (allB letB (L s))) ∧ w' = w := by
  unfold maxLen at hs
  go_enter Tryd.func52, Tryd.ntmps52
  go_wp2_with fail
  go_loopw [3] (fun i w' => ∃ k : Nat, i = .int .i64 (k : Int) ∧ k ≤ s.size ∧ (∀ b ∈ (L s).take k, letB b = true) ∧ w' = w) (fun i _ => s.size - (intOf i).toNat)
  case atStart => exact ⟨0, rfl, Nat.zero_le _, (fun b hb => by simp at hb), rfl⟩
  case round =>
    obtain ⟨k, rfl, hk, hall, rfl⟩ := hrel
    have HA := Lib.hid hall; clear hall
    by_cases hlt : k < s.size
    · have hlt' : (k : Int) < (s.size : Int) := by omega
      have hkl : k < (L s).length := by rw [L_len]; exact hlt
      cases hb : letB s[k] with
      | true =>
        have HT := Lib.hid (show ∀ b ∈ (L s).take (k + 1), letB b = true from fun b hb' => by
          rw [List.take_succ_eq_append_getElem hkl] at hb'
          rcases List.mem_append.1 hb' with q | q
          · exact HA.out b q
          · rw [List.mem_singleton.1 q]; exact hb)
        clear HA
        have hcl := rlet_any_yes hb
        clear hb
        rcases hcl with hc | hc
        · have hcI : (65 : Int) ≤ (s[k].toNat : Int) ∧ (s[k].toNat : Int) ≤ 90 := by omega
          have f0 : ¬ (97 : Int) ≤ (s[k].toNat : Int) := by omega
          have f1 : (s[k].toNat : Int) ≤ 122 := by omega
          have f2 : (65 : Int) ≤ (s[k].toNat : Int) := by omega
          have f3 : (s[k].toNat : Int) ≤ 90 := by omega
          clear hc hcI
          go_wp2_with fail
          go_roundw
          case rel => exact ⟨k + 1, by go_num, by omega, HT.out, by trivial⟩
          case measure => simp [intOf]; omega
        · have hcI : (97 : Int) ≤ (s[k].toNat : Int) ∧ (s[k].toNat : Int) ≤ 122 := by omega
          have f0 : (97 : Int) ≤ (s[k].toNat : Int) := by omega
          have f1 : (s[k].toNat : Int) ≤ 122 := by omega
          have f2 : (65 : Int) ≤ (s[k].toNat : Int) := by omega
          have f3 : ¬ (s[k].toNat : Int) ≤ 90 := by omega
          clear hc hcI
          go_wp2_with fail
          go_roundw
          case rel => exact ⟨k + 1, by go_num, by omega, HT.out, by trivial⟩
          case measure => simp [intOf]; omega
      | false =>
        have HE := Lib.hid (show allB letB (L s) = false from List.all_eq_false.2 ⟨_, List.getElem_mem hkl, by rw [show (L s)[k] = s[k] from rfl, hb]; decide⟩)
        clear HA
        have hcl := rlet_any_no hb
        clear hb
        rcases hcl with hc | hc | hc
        · have hcI : (0 : Int) ≤ (s[k].toNat : Int) ∧ (s[k].toNat : Int) ≤ 64 := by omega
          have f0 : ¬ (97 : Int) ≤ (s[k].toNat : Int) := by omega
          have f1 : (s[k].toNat : Int) ≤ 122 := by omega
          have f2 : ¬ (65 : Int) ≤ (s[k].toNat : Int) := by omega
          have f3 : (s[k].toNat : Int) ≤ 90 := by omega
          clear hc hcI
          go_wp2_with fail
          go_ret
          exact ⟨by rw [HE.out]; rfl, rfl⟩
        · have hcI : (91 : Int) ≤ (s[k].toNat : Int) ∧ (s[k].toNat : Int) ≤ 96 := by omega
          have f0 : ¬ (97 : Int) ≤ (s[k].toNat : Int) := by omega
          have f1 : (s[k].toNat : Int) ≤ 122 := by omega
          have f2 : (65 : Int) ≤ (s[k].toNat : Int) := by omega
          have f3 : ¬ (s[k].toNat : Int) ≤ 90 := by omega
          clear hc hcI
          go_wp2_with fail
          go_ret
          exact ⟨by rw [HE.out]; rfl, rfl⟩
        · have hcI : (123 : Int) ≤ (s[k].toNat : Int) ∧ (s[k].toNat : Int) ≤ 255 := by omega
          have f0 : (97 : Int) ≤ (s[k].toNat : Int) := by omega
          have f1 : ¬ (s[k].toNat : Int) ≤ 122 := by omega
          have f2 : (65 : Int) ≤ (s[k].toNat : Int) := by omega
          have f3 : ¬ (s[k].toNat : Int) ≤ 90 := by omega
          clear hc hcI
          go_wp2_with fail
          go_ret
          exact ⟨by rw [HE.out]; rfl, rfl⟩
    · obtain rfl : k = s.size := by omega
      have hlt' : ¬ (s.size : Int) < (s.size : Int) := by omega
      have HE := Lib.hid (show allB letB (L s) = true from List.all_eq_true.2 (fun b hb => HA.out b (by rw [List.take_of_length_le (by rw [L_len]; exact Nat.le_refl _)]; exact hb)))
      clear HA
      go_wp2_with fail
      go_ret
      exact ⟨by rw [HE.out]; rfl, rfl⟩
theorem rsig_any_yes {b : UInt8} (h : nmC b = true) : (43 ≤ b.toNat ∧ b.toNat ≤ 43) ∨ (45 ≤ b.toNat ∧ b.toNat ≤ 45) ∨ (48 ≤ b.toNat ∧ b.toNat ≤ 57) ∨ (65 ≤ b.toNat ∧ b.toNat ≤ 90) ∨ (97 ≤ b.toNat ∧ b.toNat ≤ 122) := by
  have hb := b.toNat_lt
  unfold nmC at h; rw [Bool.or_eq_true, Bool.or_eq_true, Bool.or_eq_true] at h
  rcases h with h | h | h | h
  · unfold letB at h; rw [decide_eq_true_eq] at h; omega
  · unfold dgB at h; rw [decide_eq_true_eq] at h; omega
  · rw [beq_iff_eq] at h; subst h; decide
  · rw [beq_iff_eq] at h; subst h; decide
theorem rsig_any_no {b : UInt8} (h : nmC b = false) : (0 ≤ b.toNat ∧ b.toNat ≤ 42) ∨ (44 ≤ b.toNat ∧ b.toNat ≤ 44) ∨ (46 ≤ b.toNat ∧ b.toNat ≤ 47) ∨ (58 ≤ b.toNat ∧ b.toNat ≤ 64) ∨ (91 ≤ b.toNat ∧ b.toNat ≤ 96) ∨ (123 ≤ b.toNat ∧ b.toNat ≤ 255) := by
  have hb := b.toNat_lt
  unfold nmC at h; rw [Bool.or_eq_false_iff, Bool.or_eq_false_iff, Bool.or_eq_false_iff] at h
  obtain ⟨h1, h2, h3, h4⟩ := h
  unfold letB at h1; unfold dgB at h2; rw [decide_eq_false_iff_not] at h1 h2
  rw [beq_eq_false_iff_ne] at h3 h4
  have h3' : b.toNat ≠ 43 := fun e => h3 (UInt8.toNat_inj.1 e)
  have h4' : b.toNat ≠ 45 := fun e => h4 (UInt8.toNat_inj.1 e)
  omega
set_option maxRecDepth 20000 in
set_option maxHeartbeats 6400000 in
/-- whether a text has a name's signs alone -/
theorem rsig_any (s : ByteArray) (w : World) (hs : s.size ≤ maxLen) : Calls Tryd.prog 60 #[.string s] w fun e w' => e = .returned (.bool (allB nmC (L s))) ∧ w' = w := by
  unfold maxLen at hs
  go_enter Tryd.func60, Tryd.ntmps60
  go_wp2_with fail
  go_loopw [3] (fun i w' => ∃ k : Nat, i = .int .i64 (k : Int) ∧ k ≤ s.size ∧ (∀ b ∈ (L s).take k, nmC b = true) ∧ w' = w) (fun i _ => s.size - (intOf i).toNat)
  case atStart => exact ⟨0, rfl, Nat.zero_le _, (fun b hb => by simp at hb), rfl⟩
  case round =>
    obtain ⟨k, rfl, hk, hall, rfl⟩ := hrel
    have HA := Lib.hid hall; clear hall
    by_cases hlt : k < s.size
    · have hlt' : (k : Int) < (s.size : Int) := by omega
      have hkl : k < (L s).length := by rw [L_len]; exact hlt
      cases hb : nmC s[k] with
      | true =>
        have HT := Lib.hid (show ∀ b ∈ (L s).take (k + 1), nmC b = true from fun b hb' => by
          rw [List.take_succ_eq_append_getElem hkl] at hb'
          rcases List.mem_append.1 hb' with q | q
          · exact HA.out b q
          · rw [List.mem_singleton.1 q]; exact hb)
        clear HA
        have hcl := rsig_any_yes hb
        clear hb
        rcases hcl with hc | hc | hc | hc | hc
        · have hcI : (43 : Int) ≤ (s[k].toNat : Int) ∧ (s[k].toNat : Int) ≤ 43 := by omega
          have f0 : ¬ (97 : Int) ≤ (s[k].toNat : Int) := by omega
          have f1 : (s[k].toNat : Int) ≤ 122 := by omega
          have f2 : ¬ (65 : Int) ≤ (s[k].toNat : Int) := by omega
          have f3 : (s[k].toNat : Int) ≤ 90 := by omega
          have f4 : ¬ (48 : Int) ≤ (s[k].toNat : Int) := by omega
          have f5 : (s[k].toNat : Int) ≤ 57 := by omega
          have f6 : ((s[k].toNat : Int) == 43) = true := by rw [beq_iff_eq]; omega
          have f7 : ((s[k].toNat : Int) == 45) = false := by rw [beq_eq_false_iff_ne]; omega
          clear hc hcI
          go_wp2_with fail
          go_roundw
          case rel => exact ⟨k + 1, by go_num, by omega, HT.out, by trivial⟩
          case measure => simp [intOf]; omega
        · have hcI : (45 : Int) ≤ (s[k].toNat : Int) ∧ (s[k].toNat : Int) ≤ 45 := by omega
          have f0 : ¬ (97 : Int) ≤ (s[k].toNat : Int) := by omega
          have f1 : (s[k].toNat : Int) ≤ 122 := by omega
          have f2 : ¬ (65 : Int) ≤ (s[k].toNat : Int) := by omega
          have f3 : (s[k].toNat : Int) ≤ 90 := by omega
          have f4 : ¬ (48 : Int) ≤ (s[k].toNat : Int) := by omega
          have f5 : (s[k].toNat : Int) ≤ 57 := by omega
          have f6 : ((s[k].toNat : Int) == 43) = false := by rw [beq_eq_false_iff_ne]; omega
          have f7 : ((s[k].toNat : Int) == 45) = true := by rw [beq_iff_eq]; omega
          clear hc hcI
          go_wp2_with fail
          go_roundw
          case rel => exact ⟨k + 1, by go_num, by omega, HT.out, by trivial⟩
          case measure => simp [intOf]; omega
        · have hcI : (48 : Int) ≤ (s[k].toNat : Int) ∧ (s[k].toNat : Int) ≤ 57 := by omega
          have f0 : ¬ (97 : Int) ≤ (s[k].toNat : Int) := by omega
          have f1 : (s[k].toNat : Int) ≤ 122 := by omega
          have f2 : ¬ (65 : Int) ≤ (s[k].toNat : Int) := by omega
          have f3 : (s[k].toNat : Int) ≤ 90 := by omega
          have f4 : (48 : Int) ≤ (s[k].toNat : Int) := by omega
          have f5 : (s[k].toNat : Int) ≤ 57 := by omega
          have f6 : ((s[k].toNat : Int) == 43) = false := by rw [beq_eq_false_iff_ne]; omega
          have f7 : ((s[k].toNat : Int) == 45) = false := by rw [beq_eq_false_iff_ne]; omega
          clear hc hcI
          go_wp2_with fail
          go_roundw
          case rel => exact ⟨k + 1, by go_num, by omega, HT.out, by trivial⟩
          case measure => simp [intOf]; omega
        · have hcI : (65 : Int) ≤ (s[k].toNat : Int) ∧ (s[k].toNat : Int) ≤ 90 := by omega
          have f0 : ¬ (97 : Int) ≤ (s[k].toNat : Int) := by omega
          have f1 : (s[k].toNat : Int) ≤ 122 := by omega
          have f2 : (65 : Int) ≤ (s[k].toNat : Int) := by omega
          have f3 : (s[k].toNat : Int) ≤ 90 := by omega
          have f4 : (48 : Int) ≤ (s[k].toNat : Int) := by omega
          have f5 : ¬ (s[k].toNat : Int) ≤ 57 := by omega
          have f6 : ((s[k].toNat : Int) == 43) = false := by rw [beq_eq_false_iff_ne]; omega
          have f7 : ((s[k].toNat : Int) == 45) = false := by rw [beq_eq_false_iff_ne]; omega
          clear hc hcI
          go_wp2_with fail
          go_roundw
          case rel => exact ⟨k + 1, by go_num, by omega, HT.out, by trivial⟩
          case measure => simp [intOf]; omega
        · have hcI : (97 : Int) ≤ (s[k].toNat : Int) ∧ (s[k].toNat : Int) ≤ 122 := by omega
          have f0 : (97 : Int) ≤ (s[k].toNat : Int) := by omega
          have f1 : (s[k].toNat : Int) ≤ 122 := by omega
          have f2 : (65 : Int) ≤ (s[k].toNat : Int) := by omega
          have f3 : ¬ (s[k].toNat : Int) ≤ 90 := by omega
          have f4 : (48 : Int) ≤ (s[k].toNat : Int) := by omega
          have f5 : ¬ (s[k].toNat : Int) ≤ 57 := by omega
          have f6 : ((s[k].toNat : Int) == 43) = false := by rw [beq_eq_false_iff_ne]; omega
          have f7 : ((s[k].toNat : Int) == 45) = false := by rw [beq_eq_false_iff_ne]; omega
          clear hc hcI
          go_wp2_with fail
          go_roundw
          case rel => exact ⟨k + 1, by go_num, by omega, HT.out, by trivial⟩
          case measure => simp [intOf]; omega
      | false =>
        have HE := Lib.hid (show allB nmC (L s) = false from List.all_eq_false.2 ⟨_, List.getElem_mem hkl, by rw [show (L s)[k] = s[k] from rfl, hb]; decide⟩)
        clear HA
        have hcl := rsig_any_no hb
        clear hb
        rcases hcl with hc | hc | hc | hc | hc | hc
        · have hcI : (0 : Int) ≤ (s[k].toNat : Int) ∧ (s[k].toNat : Int) ≤ 42 := by omega
          have f0 : ¬ (97 : Int) ≤ (s[k].toNat : Int) := by omega
          have f1 : (s[k].toNat : Int) ≤ 122 := by omega
          have f2 : ¬ (65 : Int) ≤ (s[k].toNat : Int) := by omega
          have f3 : (s[k].toNat : Int) ≤ 90 := by omega
          have f4 : ¬ (48 : Int) ≤ (s[k].toNat : Int) := by omega
          have f5 : (s[k].toNat : Int) ≤ 57 := by omega
          have f6 : ((s[k].toNat : Int) == 43) = false := by rw [beq_eq_false_iff_ne]; omega
          have f7 : ((s[k].toNat : Int) == 45) = false := by rw [beq_eq_false_iff_ne]; omega
          clear hc hcI
          go_wp2_with fail
          go_ret
          exact ⟨by rw [HE.out]; rfl, rfl⟩
        · have hcI : (44 : Int) ≤ (s[k].toNat : Int) ∧ (s[k].toNat : Int) ≤ 44 := by omega
          have f0 : ¬ (97 : Int) ≤ (s[k].toNat : Int) := by omega
          have f1 : (s[k].toNat : Int) ≤ 122 := by omega
          have f2 : ¬ (65 : Int) ≤ (s[k].toNat : Int) := by omega
          have f3 : (s[k].toNat : Int) ≤ 90 := by omega
          have f4 : ¬ (48 : Int) ≤ (s[k].toNat : Int) := by omega
          have f5 : (s[k].toNat : Int) ≤ 57 := by omega
          have f6 : ((s[k].toNat : Int) == 43) = false := by rw [beq_eq_false_iff_ne]; omega
          have f7 : ((s[k].toNat : Int) == 45) = false := by rw [beq_eq_false_iff_ne]; omega
          clear hc hcI
          go_wp2_with fail
          go_ret
          exact ⟨by rw [HE.out]; rfl, rfl⟩
        · have hcI : (46 : Int) ≤ (s[k].toNat : Int) ∧ (s[k].toNat : Int) ≤ 47 := by omega
          have f0 : ¬ (97 : Int) ≤ (s[k].toNat : Int) := by omega
          have f1 : (s[k].toNat : Int) ≤ 122 := by omega
          have f2 : ¬ (65 : Int) ≤ (s[k].toNat : Int) := by omega
          have f3 : (s[k].toNat : Int) ≤ 90 := by omega
          have f4 : ¬ (48 : Int) ≤ (s[k].toNat : Int) := by omega
          have f5 : (s[k].toNat : Int) ≤ 57 := by omega
          have f6 : ((s[k].toNat : Int) == 43) = false := by rw [beq_eq_false_iff_ne]; omega
          have f7 : ((s[k].toNat : Int) == 45) = false := by rw [beq_eq_false_iff_ne]; omega
          clear hc hcI
          go_wp2_with fail
          go_ret
          exact ⟨by rw [HE.out]; rfl, rfl⟩
        · have hcI : (58 : Int) ≤ (s[k].toNat : Int) ∧ (s[k].toNat : Int) ≤ 64 := by omega
          have f0 : ¬ (97 : Int) ≤ (s[k].toNat : Int) := by omega
          have f1 : (s[k].toNat : Int) ≤ 122 := by omega
          have f2 : ¬ (65 : Int) ≤ (s[k].toNat : Int) := by omega
          have f3 : (s[k].toNat : Int) ≤ 90 := by omega
          have f4 : (48 : Int) ≤ (s[k].toNat : Int) := by omega
          have f5 : ¬ (s[k].toNat : Int) ≤ 57 := by omega
          have f6 : ((s[k].toNat : Int) == 43) = false := by rw [beq_eq_false_iff_ne]; omega
          have f7 : ((s[k].toNat : Int) == 45) = false := by rw [beq_eq_false_iff_ne]; omega
          clear hc hcI
          go_wp2_with fail
          go_ret
          exact ⟨by rw [HE.out]; rfl, rfl⟩
        · have hcI : (91 : Int) ≤ (s[k].toNat : Int) ∧ (s[k].toNat : Int) ≤ 96 := by omega
          have f0 : ¬ (97 : Int) ≤ (s[k].toNat : Int) := by omega
          have f1 : (s[k].toNat : Int) ≤ 122 := by omega
          have f2 : (65 : Int) ≤ (s[k].toNat : Int) := by omega
          have f3 : ¬ (s[k].toNat : Int) ≤ 90 := by omega
          have f4 : (48 : Int) ≤ (s[k].toNat : Int) := by omega
          have f5 : ¬ (s[k].toNat : Int) ≤ 57 := by omega
          have f6 : ((s[k].toNat : Int) == 43) = false := by rw [beq_eq_false_iff_ne]; omega
          have f7 : ((s[k].toNat : Int) == 45) = false := by rw [beq_eq_false_iff_ne]; omega
          clear hc hcI
          go_wp2_with fail
          go_ret
          exact ⟨by rw [HE.out]; rfl, rfl⟩
        · have hcI : (123 : Int) ≤ (s[k].toNat : Int) ∧ (s[k].toNat : Int) ≤ 255 := by omega
          have f0 : (97 : Int) ≤ (s[k].toNat : Int) := by omega
          have f1 : ¬ (s[k].toNat : Int) ≤ 122 := by omega
          have f2 : (65 : Int) ≤ (s[k].toNat : Int) := by omega
          have f3 : ¬ (s[k].toNat : Int) ≤ 90 := by omega
          have f4 : (48 : Int) ≤ (s[k].toNat : Int) := by omega
          have f5 : ¬ (s[k].toNat : Int) ≤ 57 := by omega
          have f6 : ((s[k].toNat : Int) == 43) = false := by rw [beq_eq_false_iff_ne]; omega
          have f7 : ((s[k].toNat : Int) == 45) = false := by rw [beq_eq_false_iff_ne]; omega
          clear hc hcI
          go_wp2_with fail
          go_ret
          exact ⟨by rw [HE.out]; rfl, rfl⟩
    · obtain rfl : k = s.size := by omega
      have hlt' : ¬ (s.size : Int) < (s.size : Int) := by omega
      have HE := Lib.hid (show allB nmC (L s) = true from List.all_eq_true.2 (fun b hb => HA.out b (by rw [List.take_of_length_le (by rw [L_len]; exact Nat.le_refl _)]; exact hb)))
      clear HA
      go_wp2_with fail
      go_ret
      exact ⟨by rw [HE.out]; rfl, rfl⟩
def nmE (l : List UInt8) : Int := if nameB l = true then 0 else 2
set_option maxRecDepth 20000 in
set_option maxHeartbeats 3200000 in
/-- CheckLetter of a text of three bytes or more -/
theorem rchkl_any (s : ByteArray) (w : World) (hs : s.size ≤ maxLen) (h3 : 3 ≤ s.size) : Calls Tryd.prog 41 #[.string s] w fun e w' => e = .returned (.int .i64 (nmE (L s))) ∧ w' = w := by
  have hg := fun w => rsig_any s w hs
  unfold maxLen at hs
  have hd : (s.toList == [45]) = false := by
    rw [beq_eq_false_iff_ne, Lib.toList_data]; intro e
    have := congrArg List.length e
    have h1 : s.data.toList.length = s.size := L_len s
    rw [h1] at this; simp at this; omega
  by_cases h : 32 < s.size
  · have h' : (32 : Int) < (s.size : Int) := by omega
    have HE := Lib.hid (show nmE (L s) = 2 by unfold nmE nameB; rw [L_len, decide_eq_false (by omega)]; rfl)
    go_enter Tryd.func41, Tryd.ntmps41
    go_wp2_with fail
    go_ret
    exact ⟨by rw [HE.out]; rfl, rfl⟩
  · have h' : ¬ (32 : Int) < (s.size : Int) := by omega
    have HE0 : nmE (L s) = if allB nmC (L s) = true then 0 else 2 := by unfold nmE nameB allB; rw [L_len, decide_eq_true (by omega)]; rfl
    cases hq : allB nmC (L s)
    all_goals
      rw [hq] at hg HE0
      simp only [if_true, Bool.false_eq_true, if_false] at HE0
      have HE := Lib.hid HE0
      clear hq HE0
      go_enter Tryd.func41, Tryd.ntmps41
      go_wp2_with (refine (hg _).mono ?_; rintro e W ⟨rfl, rfl⟩)
      go_ret
      exact ⟨by rw [HE.out]; rfl, rfl⟩
set_option maxRecDepth 20000 in
set_option maxHeartbeats 3200000 in
theorem rfname_any (s : ByteArray) (w : World) (hs : s.size ≤ maxLen) : Calls Tryd.prog 11 #[.string s] w fun e w' => e = .returned (.bool (nameB (L s))) ∧ w' = w := by
  by_cases h : 3 ≤ s.size
  · have hg := fun w => rchkl_any s w hs h
    unfold maxLen at hs
    have h' : (3 : Int) ≤ (s.size : Int) := by omega
    cases hq : nameB (L s)
    all_goals
      simp only [nmE, hq, if_true, Bool.false_eq_true, if_false] at hg
      clear hq
      go_enter Tryd.func11, Tryd.ntmps11
      go_wp2_with (refine (hg _).mono ?_; rintro e W ⟨rfl, rfl⟩)
      go_ret
      exact ⟨rfl, rfl⟩
  · unfold maxLen at hs
    have h' : ¬ (3 : Int) ≤ (s.size : Int) := by omega
    have HE := Lib.hid (show nameB (L s) = false by unfold nameB; rw [L_len, decide_eq_false (by omega)]; rfl)
    go_enter Tryd.func11, Tryd.ntmps11
    go_wp2_with fail
    go_ret
    exact ⟨by rw [HE.out]; rfl, rfl⟩
end Go.Proofs.YtgdgkgeoigljcaaDoor.Fo
