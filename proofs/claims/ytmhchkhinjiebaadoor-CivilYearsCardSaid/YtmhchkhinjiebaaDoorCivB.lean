/-
  THE CALENDAR's FUNCTIONS OVER DATES, WALKED: each returns what plain Lean says.
-/
import Derived.Test.YtmhchkhinjiebaaDoorCiv
namespace Go.Proofs.YtmhchkhinjiebaaDoor.Civ
open Go.ChangeShapes Go.WideShapes Go.ChangeAt Go.RowKit
set_option linter.unusedVariables false

abbrev dateV (y m d : Int) : Value := .agg #[.int .i64 y, .int .i64 m, .int .i64 d]
theorem lenE_bd (y m : Int) : Cal.lenE y m = 0 ∨ Cal.lenE y m = 1 := by unfold Cal.lenE; split <;> simp
theorem bcell {W w1 : World} (hb : Below W.heap.size W w1) : (∀ b o, b < W.heap.size → w1.cell? ⟨b, o, none⟩ = W.cell? ⟨b, o, none⟩) ∧ (∀ b o, b < W.heap.size → w1.frozen? ⟨b, o, none⟩ = W.frozen? ⟨b, o, none⟩) :=
  ⟨fun b o h => hb.cell (p := ⟨b, o, none⟩) h, fun b o h => hb.frozen (p := ⟨b, o, none⟩) h⟩
theorem chk_yes {y m d : Int} (h : Cal.okYM y m = true) : (1 ≤ d ∧ d ≤ Cal.mlen y m → Cal.chkE y m d = 0) ∧ (d < 1 ∨ Cal.mlen y m < d → Cal.chkE y m d = 1) := by
  rw [Cal.okYM_iff] at h
  unfold Cal.chkE
  refine ⟨fun g => ?_, fun g => ?_⟩
  · rw [if_pos ((Cal.okD_iff _ _ _).2 (by omega))]
  · rw [Cal.okD_no (by omega)]; rfl
theorem chk_no {y m d : Int} (h : ¬ Cal.okYM y m = true) : Cal.chkE y m d = 1 := by
  rw [Cal.okYM_iff] at h
  unfold Cal.chkE
  rw [Cal.okD_no (by omega)]; rfl
theorem len_of {y m : Int} (h : Cal.okYM y m = true) : Cal.lenE y m = 0 ∧ Cal.lenV y m = Cal.mlen y m := by
  unfold Cal.lenE Cal.lenV; rw [if_pos h, if_pos h]; exact ⟨rfl, rfl⟩
theorem len_off {y m : Int} (h : ¬ Cal.okYM y m = true) : Cal.lenE y m = 1 ∧ Cal.lenV y m = 0 := by
  unfold Cal.lenE Cal.lenV; rw [if_neg h, if_neg h]; exact ⟨rfl, rfl⟩
set_option maxHeartbeats 400000 in
theorem chk_any (y m d : Int) (w : World) (hT : Tab w) :
    Calls Tryd.prog 17 #[dateV y m d] w fun e w' => e = .returned (.int .i64 (Cal.chkE y m d)) ∧ Below w.heap.size w w' := by
  have hb : Below w.heap.size w (w.alloc (.cells #[.int .i64 y, .int .i64 m, .int .i64 d] 23)) := (Below.refl _ _).alloc (Nat.le_refl _) _
  have hT1 : Tab (w.alloc (.cells #[.int .i64 y, .int .i64 m, .int .i64 d] 23)) := hT.below (B := w.heap.size) hT.1 hb
  by_cases h : Cal.okYM y m = true
  · obtain ⟨hl, hv⟩ := len_of h
    obtain ⟨c0, c1⟩ := chk_yes (d := d) h
    have C0 := Lib.hid c0; have C1 := Lib.hid c1
    clear c0 c1 h
    go_enter Tryd.func17, Tryd.ntmps17
    go_wp2_with (go_at_call 10; refine (len_any _ _ _ hT1).mono ?_; rintro e w' ⟨rfl, rfl⟩)
    all_goals go_ret
    all_goals refine ⟨ret_int ?_, hb⟩
    · exact (C1.out (by assumption)).symm
    · exact (C0.out (by assumption)).symm
    · exact (C1.out (.inl (by assumption))).symm
  · obtain ⟨hl, hv⟩ := len_off h
    have C0 := Lib.hid (chk_no (d := d) h)
    clear h
    go_enter Tryd.func17, Tryd.ntmps17
    go_wp2_with (go_at_call 10; refine (len_any _ _ _ hT1).mono ?_; rintro e w' ⟨rfl, rfl⟩)
    go_ret
    exact ⟨ret_int C0.out.symm, hb⟩
set_option maxHeartbeats 400000 in
theorem rchk_any (y m d : Int) (w : World) :
    Calls Tryd.prog 18 #[dateV y m d] w fun e w' => e = .returned (.int .i64 (Cal.chkE y m d)) ∧ Below w.heap.size w w' := by
  have hb : Below w.heap.size w (w.alloc (.cells #[.int .i64 y, .int .i64 m, .int .i64 d] 23)) := (Below.refl _ _).alloc (Nat.le_refl _) _
  by_cases h : Cal.okYM y m = true
  · obtain ⟨hl, hv⟩ := len_of h
    obtain ⟨c0, c1⟩ := chk_yes (d := d) h
    have C0 := Lib.hid c0; have C1 := Lib.hid c1
    clear c0 c1 h
    go_enter Tryd.func18, Tryd.ntmps18
    go_wp2_with (go_at_call 11; refine (rlen_any _ _ _).mono ?_; rintro e w' ⟨rfl, rfl⟩)
    all_goals go_ret
    all_goals refine ⟨ret_int ?_, hb⟩
    all_goals first | exact (C1.out (by assumption)).symm | exact (C0.out (by assumption)).symm | exact (C1.out (.inl (by assumption))).symm
  · obtain ⟨hl, hv⟩ := len_off h
    have C0 := Lib.hid (chk_no (d := d) h)
    clear h
    go_enter Tryd.func18, Tryd.ntmps18
    go_wp2_with (go_at_call 11; refine (rlen_any _ _ _).mono ?_; rintro e w' ⟨rfl, rfl⟩)
    go_ret
    exact ⟨ret_int C0.out.symm, hb⟩
set_option maxHeartbeats 400000 in
theorem days_any (y m d : Int) (w : World) (hT : Tab w) :
    Calls Tryd.prog 6 #[dateV y m d] w fun e w' => e = .returned (.tuple #[.int .i64 (Cal.numV y m d), .int .i64 (Cal.chkE y m d)]) ∧ Below w.heap.size w w' := by
  have hb : Below w.heap.size w (w.alloc (.cells #[.int .i64 y, .int .i64 m, .int .i64 d] 23)) := (Below.refl _ _).alloc (Nat.le_refl _) _
  have hT1 : Tab (w.alloc (.cells #[.int .i64 y, .int .i64 m, .int .i64 d] 23)) := hT.below (B := w.heap.size) hT.1 hb
  by_cases h : Cal.okD y m d = true
  · have hl : Cal.chkE y m d = 0 := by unfold Cal.chkE; rw [if_pos h]
    have hv : Cal.numV y m d = Cal.num y m d := by unfold Cal.numV; rw [if_pos h]
    rw [Cal.okD_iff] at h
    obtain ⟨h1, h2, h3, h4, h5, h6⟩ := h
    have h7 := (Cal.mlen_bd y m).2
    go_enter Tryd.func6, Tryd.ntmps6
    go_wp2_with (first
      | (go_at_call 17; refine (chk_any _ _ _ _ hT1).mono ?_; rintro e w1 ⟨rfl, hb1⟩; obtain ⟨hc1, hf1⟩ := bcell hb1; have hbw := hb.trans (hb1.mono (by simp)))
      | (go_at_call 21; refine (number_any _ _ _ _ (by omega) (by omega) (by omega) (by omega) (by omega) (by omega)).mono ?_; rintro e w' ⟨rfl, rfl⟩))
    go_ret2
    exact ⟨ret_two hv.symm hl.symm, hbw⟩
  · have hl : Cal.chkE y m d = 1 := by unfold Cal.chkE; rw [if_neg h]
    have hv : Cal.numV y m d = 0 := by unfold Cal.numV; rw [if_neg h]
    go_enter Tryd.func6, Tryd.ntmps6
    go_wp2_with (first
      | (go_at_call 17; refine (chk_any _ _ _ _ hT1).mono ?_; rintro e w1 ⟨rfl, hb1⟩; obtain ⟨hc1, hf1⟩ := bcell hb1; have hbw := hb.trans (hb1.mono (by simp))))
    go_ret2
    exact ⟨ret_two hv.symm hl.symm, hbw⟩
end Go.Proofs.YtmhchkhinjiebaaDoor.Civ
