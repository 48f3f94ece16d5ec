/-
  THE CALENDAR's FUNCTIONS, WALKED: each returns what the plain law says (the reference).
-/
import Derived.Test.YtefcjccapekjdaaDoorCv
namespace Go.Proofs.YtefcjccapekjdaaDoor.Civ
open Go.ChangeShapes Go.WideShapes Go.ChangeAt Go.RowKit
set_option linter.unusedVariables false
set_option maxHeartbeats 400000 in
theorem rleap_any (y : Int) (w : World) :
    Calls Tryd.prog 144 #[.int .i64 y] w fun e w' => e = .returned (.bool (Cal.leap y)) ∧ w = w' := by
  go_enter Tryd.func144, Tryd.ntmps144
  go_wp2
  all_goals (have _t := Cal.tm y 4; have _u := Cal.tm y 100; have _v := Cal.tm y 400; go_ret; refine ⟨ret_bool ?_, rfl⟩; rw [Bool.eq_iff_iff, Cal.leap_iff]; simp; try omega)
theorem rlen_no (y m : Int) (w : World) (h : ¬ (1 ≤ y ∧ y ≤ 9999 ∧ 1 ≤ m ∧ m ≤ 12)) :
    Calls Tryd.prog 124 #[.int .i64 y, .int .i64 m] w fun e w' => e = .returned (.tuple #[.int .i64 0, .int .i64 1]) ∧ w = w' := by
  have hh : y < 1 ∨ (1 ≤ y ∧ 9999 < y) ∨ (1 ≤ y ∧ y ≤ 9999 ∧ m < 1) ∨ (1 ≤ y ∧ y ≤ 9999 ∧ 1 ≤ m ∧ 12 < m) := by omega
  clear h
  rcases hh with h1 | ⟨h1, h2⟩ | ⟨h1, h2, h3⟩ | ⟨h1, h2, h3, h4⟩
  all_goals
    go_enter Tryd.func124, Tryd.ntmps124
    go_wp2
    go_ret2
    exact ⟨rfl, rfl⟩
set_option maxHeartbeats 1600000 in
theorem rlen_yes (y m : Int) (w : World) (h1 : 1 ≤ y) (h2 : y ≤ 9999) (h3 : 1 ≤ m) (h4 : m ≤ 12) :
    Calls Tryd.prog 124 #[.int .i64 y, .int .i64 m] w fun e w' => e = .returned (.tuple #[.int .i64 (Cal.mlen y m), .int .i64 0]) ∧ w = w' := by
  have : m = 2 ∨ (m = 4 ∨ m = 6 ∨ m = 9 ∨ m = 11) ∨ (m = 1 ∨ m = 3 ∨ m = 5 ∨ m = 7 ∨ m = 8 ∨ m = 10 ∨ m = 12) := by omega
  rcases this with hm | hm | hm
  · subst hm
    cases hl : Cal.leap y <;> (
      have H := Lib.hid hl; clear hl
      go_enter Tryd.func124, Tryd.ntmps124
      go_wp2_with (go_at_call 144; refine (rleap_any _ _).mono ?_; rintro e w' ⟨rfl, rfl⟩; rw [H.out])
      go_ret2
      exact ⟨ret_two (by simp [Cal.mlen, H.out]) rfl, rfl⟩)
  · have e : Cal.mlen y m = 30 := by unfold Cal.mlen; rw [if_neg (by omega), if_pos hm]
    rw [e]; clear e
    rcases hm with h | h | h | h <;> subst h <;> (
      go_enter Tryd.func124, Tryd.ntmps124
      go_wp2
      go_ret2
      exact ⟨rfl, rfl⟩)
  · have e : Cal.mlen y m = 31 := by unfold Cal.mlen; rw [if_neg (by omega), if_neg (by omega)]
    rw [e]; clear e
    rcases hm with h | h | h | h | h | h | h <;> subst h <;> (
      go_enter Tryd.func124, Tryd.ntmps124
      go_wp2
      go_ret2
      exact ⟨rfl, rfl⟩)
theorem rlen_any (y m : Int) (w : World) :
    Calls Tryd.prog 124 #[.int .i64 y, .int .i64 m] w fun e w' => e = .returned (.tuple #[.int .i64 (Cal.lenV y m), .int .i64 (Cal.lenE y m)]) ∧ w = w' := by
  by_cases h : 1 ≤ y ∧ y ≤ 9999 ∧ 1 ≤ m ∧ m ≤ 12
  · have e := (Cal.okYM_iff y m).2 h
    unfold Cal.lenV Cal.lenE; rw [if_pos e, if_pos e]
    exact rlen_yes y m w h.1 h.2.1 h.2.2.1 h.2.2.2
  · have e := Cal.okYM_no h
    unfold Cal.lenV Cal.lenE; rw [e]
    exact rlen_no y m w h
theorem rfir_any (y : Int) (w : World) :
    Calls Tryd.prog 141 #[.int .i64 y] w fun e w' => e = .returned (.tuple #[.int .i64 (Cal.firV y), .int .i64 (Cal.firE y)]) ∧ w = w' := by
  by_cases h : 1 ≤ y ∧ y ≤ 10000
  · have e := (Cal.okF_iff y).2 h
    unfold Cal.firV Cal.firE; rw [if_pos e, if_pos e]
    obtain ⟨h1, h2⟩ := h
    clear e
    have H : Cal.first y = 365 * (y - 1) + (y - 1) / 4 - (y - 1) / 100 + (y - 1) / 400 - 719162 := rfl
    have HH := Lib.hid H; clear H
    go_enter Tryd.func141, Tryd.ntmps141
    go_wp2
    go_ret2
    exact ⟨ret_two HH.out.symm rfl, rfl⟩
  · have e := Cal.okF_no h
    unfold Cal.firV Cal.firE; rw [e]
    have hh : y < 1 ∨ (1 ≤ y ∧ 10000 < y) := by omega
    clear h e
    rcases hh with h1 | ⟨h1, h2⟩
    all_goals
      go_enter Tryd.func141, Tryd.ntmps141
      go_wp2
      go_ret2
      exact ⟨rfl, rfl⟩
theorem rwd_any (n : Int) (w : World) :
    Calls Tryd.prog 115 #[.int .i64 n] w fun e w' => e = .returned (.int .i64 (Cal.wday n)) ∧ w = w' := by
  have H := tmod7 n
  by_cases hn : n.tmod 7 < 0
  all_goals
    go_enter Tryd.func115, Tryd.ntmps115
    go_wp2
    go_ret
    refine ⟨ret_int ?_, rfl⟩
    unfold Cal.wday
    omega
set_option maxHeartbeats 400000 in
theorem rchk_any (y m d : Int) (w : World) :
    Calls Tryd.prog 140 #[dateV y m d] w fun e w' => e = .returned (.int .i64 (Cal.chkE y m d)) ∧ Below w.heap.size w w' := by
  have hb : Below w.heap.size w (w.alloc (.cells #[.int .i64 y, .int .i64 m, .int .i64 d] 142)) := (Below.refl _ _).alloc (Nat.le_refl _) _
  by_cases h : Cal.okYM y m = true
  · obtain ⟨hl, hv⟩ := len_of h
    obtain ⟨c0, c1⟩ := chk_yes (d := d) h
    have C0 := Lib.hid c0; have C1 := Lib.hid c1
    clear c0 c1 h
    go_enter Tryd.func140, Tryd.ntmps140
    go_wp2_with (go_at_call 124; refine (rlen_any _ _ _).mono ?_; rintro e w' ⟨rfl, rfl⟩)
    all_goals go_ret
    all_goals refine ⟨ret_int ?_, hb⟩
    all_goals first | exact (C1.out (by assumption)).symm | exact (C0.out (by assumption)).symm | exact (C1.out (.inl (by assumption))).symm
  · obtain ⟨hl, hv⟩ := len_off h
    have C0 := Lib.hid (chk_no (d := d) h)
    clear h
    go_enter Tryd.func140, Tryd.ntmps140
    go_wp2_with (go_at_call 124; refine (rlen_any _ _ _).mono ?_; rintro e w' ⟨rfl, rfl⟩)
    go_ret
    exact ⟨ret_int C0.out.symm, hb⟩
set_option maxHeartbeats 800000 in
theorem rdays_any (y m d : Int) (w : World) :
    Calls Tryd.prog 114 #[dateV y m d] w fun e w' => e = .returned (.tuple #[.int .i64 (Cal.numV y m d), .int .i64 (Cal.chkE y m d)]) ∧ Below w.heap.size w w' := by
  have hb : Below w.heap.size w (w.alloc (.cells #[.int .i64 y, .int .i64 m, .int .i64 d] 142)) := (Below.refl _ _).alloc (Nat.le_refl _) _
  by_cases h : Cal.okD y m d = true
  · have hl : Cal.chkE y m d = 0 := by unfold Cal.chkE; rw [if_pos h]
    have hv : Cal.numV y m d = Cal.num y m d := by unfold Cal.numV; rw [if_pos h]
    have hn : Cal.num y m d = Cal.first y + Cal.cum y m + d - 1 := rfl
    rw [Cal.okD_iff] at h
    obtain ⟨h1, h2, h3, h4, h5, h6⟩ := h
    have h7 := (Cal.mlen_bd y m).2
    have hf : Cal.firV y = Cal.first y := by unfold Cal.firV; rw [if_pos ((Cal.okF_iff y).2 (by omega))]
    have hfb : -719162 ≤ Cal.first y ∧ Cal.first y ≤ 2932897 := by unfold Cal.first; omega
    have HN := Lib.hid (hv.trans hn); clear hn hv
    obtain ⟨hfb1, hfb2⟩ := hfb
    go_enter Tryd.func114, Tryd.ntmps114
    go_wp2_with (first
      | (go_at_call 140; refine (rchk_any _ _ _ _).mono ?_; rintro e w1 ⟨rfl, hb1⟩; obtain ⟨hc1, hf1⟩ := bcell hb1; have hbw := hb.trans (hb1.mono (by simp)))
      | (go_at_call 141; refine (rfir_any _ _).mono ?_; rintro e w' ⟨rfl, rfl⟩))
    clear hl hf
    go_loop [4, 6] (fun n i => ∃ k : Int, 1 ≤ k ∧ k ≤ m ∧ i = .int .i64 k ∧ n = .int .i64 (Cal.first y + Cal.cum y k)) (fun _ i => (12 - intOf i).toNat)
    case atStart => exact ⟨1, by omega, by omega, rfl, by simp [Cal.cum]⟩
    case round =>
      obtain ⟨k, hk1, hk2, rfl, rfl⟩ := hrel
      have cb := Cal.cum_bd y k hk1 (by omega)
      by_cases hlt : k < m
      · have cs := Cal.cum_succ y k hk1 (by omega)
        have CS := Lib.hid cs; clear cs
        have mb := Cal.mlen_bd y k
        obtain ⟨hl1, hl2⟩ := len_of ((Cal.okYM_iff y k).2 ⟨h1, h2, by omega, by omega⟩)
        go_wp2_with (go_at_call 124; refine (rlen_any _ _ _).mono ?_; rintro e w' ⟨rfl, rfl⟩)
        go_round
        case rel => exact ⟨k + 1, by omega, by omega, rfl, by rw [CS.out, Int.add_assoc]⟩
        case measure => simp [intOf]; omega
      · obtain rfl : k = m := by omega
        go_wp2
        go_ret2
        exact ⟨ret_two HN.out.symm (by unfold Cal.chkE; rw [if_pos ((Cal.okD_iff _ _ _).2 (by omega))]), hbw⟩
  · have hl : Cal.chkE y m d = 1 := by unfold Cal.chkE; rw [if_neg h]
    have hv : Cal.numV y m d = 0 := by unfold Cal.numV; rw [if_neg h]
    go_enter Tryd.func114, Tryd.ntmps114
    go_wp2_with (first
      | (go_at_call 140; refine (rchk_any _ _ _ _).mono ?_; rintro e w1 ⟨rfl, hb1⟩; obtain ⟨hc1, hf1⟩ := bcell hb1; have hbw := hb.trans (hb1.mono (by simp))))
    go_ret2
    exact ⟨ret_two hv.symm hl.symm, hbw⟩
end Go.Proofs.YtefcjccapekjdaaDoor.Civ
