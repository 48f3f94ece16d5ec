/-
  THE FUNCTIONS OF utf, AND THE REFERENCE's, WALKED (3): where a text is not right.
-/
import Derived.Test.YtmhchkhinjiebaaUtfF
import Derived.LoopTactic
import Derived.Deep.LoopGhost
namespace Go.Proofs.Ytmhchkhinjiebaa.Utf
open Go.ChangeShapes Go.WideShapes Go.ChangeAt Go.RowKit
set_option linter.unusedVariables false
theorem pre_L (t : ByteArray) (h : 3 ≤ t.size) : ((t.extract 0 3).toList == [239, 191, 189]) = pre (L t) := by
  rw [take_L]; rfl
theorem pre_short (t : ByteArray) (h : t.size < 3) : pre (L t) = false := by
  unfold pre
  have := L_len t
  rw [beq_eq_false_iff_ne]
  intro e
  have := congrArg List.length e
  simp at this; omega
theorem hp_any (t : ByteArray) (w : World) :
    Calls Try.prog 15 #[.string t, .string ⟨#[239, 191, 189]⟩] w fun e w' => e = .returned (.bool (pre (L t))) ∧ w = w' := by
  by_cases h : 3 ≤ t.size
  · have H := Lib.hid (pre_L t h)
    go_enter Try.func15, Try.ntmps15
    go_wp2
    go_ret
    exact ⟨by rw [← H.out]; rfl, rfl⟩
  · have H := Lib.hid (pre_short t (by omega))
    have h' : (t.size : Int) < 3 := by omega
    go_enter Try.func15, Try.ntmps15
    go_wp2
    go_ret
    exact ⟨by rw [H.out]; rfl, rfl⟩
theorem L_extract (s : ByteArray) (a : Nat) : L (s.extract a s.size) = (L s).drop a := by
  unfold L; exact Lib.extract_to_end s a
theorem L_drop_ne (s : ByteArray) (pos : Nat) (h : pos < s.size) : (L s).drop pos ≠ [] := by
  intro e
  have := congrArg List.length e
  rw [List.length_drop, L_len] at this
  simp at this; omega
theorem L_drop_nil (s : ByteArray) (pos : Nat) (h : s.size ≤ pos) : (L s).drop pos = [] := List.drop_eq_nil_of_le (by rw [L_len]; exact h)
theorem dec_at (s : ByteArray) (pos : Nat) : Utf8.decode s pos = dec ((L s).drop pos) := dec_utf8 s pos
set_option maxHeartbeats 1600000 in
theorem check_any (s : ByteArray) (w : World) (hs : s.size ≤ maxLen) :
    Calls Try.prog 8 #[.string s] w fun e w' => e = .returned (.tuple #[.int .i64 (chkI (L s)), .int .i64 (chkE (L s))]) ∧ Below w.heap.size w w' := by
  unfold maxLen at hs
  have hit : ∀ pos, Below w.heap.size w (w.iter s pos) := fun pos => (Below.refl _ _).alloc (Nat.le_refl _) _
  go_enter Try.func8, Try.ntmps8
  go_wp2
  go_loopw [4, 5] (fun _ _ w' => ∃ pos : Nat, w' = w.iter s pos ∧ pos ≤ s.size ∧ B (L s) = (B ((L s).drop pos)).map (· + pos)) (fun _ _ w' => s.size - w'.iterPos w.heap.size)
  case atStart => exact ⟨0, rfl, Nat.zero_le _, by simp⟩
  case round =>
    obtain ⟨pos, rfl, hpos, hB⟩ := hrel
    have HB := Lib.hid hB; clear hB
    by_cases hp : pos < s.size
    · have hne := L_drop_ne s pos hp
      have hlen := dec_le_len _ hne
      have hwd := dec_pos ((L s).drop pos)
      rw [List.length_drop, L_len] at hlen
      have hle : ((dec ((L s).drop pos)).1 : Int) ≤ 2147483647 := by have := decode_le s pos; rw [dec_at] at this; omega
      have hnx : ∀ ty, (Instr.next (.pointer (some ⟨w.heap.size, 0, none⟩)) true ty).run Try.prog (w.iter s pos) = _ := fun ty => run_next_any w s pos ty hp
      rw [dec_at] at hnx
      have hp' : (pos : Int) ≤ (s.size : Int) := by omega
      by_cases hd : dec ((L s).drop pos) = (65533, 1)
      · have hpre := pre_not _ hd
        rw [← L_extract] at hpre
        have H := Lib.hid (B_bad _ hne hd)
        rw [hd] at hnx
        simp only [] at hnx
        clear hd hwd hle hne hlen
        go_wp2_with (go_at_call 15; refine (hp_any _ _).mono ?_; rintro e w' ⟨rfl, rfl⟩; rw [hpre])
        go_ret2
        exact ⟨ret_two (by unfold chkI; rw [HB.out, H.out]; simp) (by unfold chkE; rw [HB.out, H.out]; rfl), hit _⟩
      · have H := Lib.hid (B_step _ hne hd)
        by_cases hc : (dec ((L s).drop pos)).1 = 65533
        · have hpre := pre_of _ hne hc hd
          rw [← L_extract] at hpre
          rw [hc] at hnx
          generalize hn : (dec ((L s).drop pos)).2 = n at *
          clear hc hd hne hle hn
          go_wp2_with (go_at_call 15; refine (hp_any _ _).mono ?_; rintro e w' ⟨rfl, rfl⟩; rw [hpre])
          go_roundw
          case rel => exact ⟨pos + n, rfl, by omega, by rw [HB.out, H.out, List.drop_drop]; cases B ((L s).drop (pos + n)) <;> simp; omega⟩
          case measure => simp; omega
        · have hc' : (((dec ((L s).drop pos)).1 : Int) == 65533) = false := by simp; omega
          generalize hn : (dec ((L s).drop pos)).2 = n at *
          clear hc hd hne hle hn
          go_wp2
          go_roundw
          case rel => exact ⟨pos + n, rfl, by omega, by rw [HB.out, H.out, List.drop_drop]; cases B ((L s).drop (pos + n)) <;> simp; omega⟩
          case measure => simp; omega
    · have hnx : ∀ ty, (Instr.next (.pointer (some ⟨w.heap.size, 0, none⟩)) true ty).run Try.prog (w.iter s pos) = _ := fun ty => run_next_end w s pos ty hp
      have H := Lib.hid (L_drop_nil s pos (by omega))
      go_wp2
      go_ret2
      exact ⟨ret_two (by unfold chkI; rw [HB.out, H.out]; rfl) (by unfold chkE; rw [HB.out, H.out]; rfl), hit _⟩
end Go.Proofs.Ytmhchkhinjiebaa.Utf
