/-
  THE CALENDAR's FUNCTIONS, WALKED: each returns what the plain law says (the reference).
-/
import Derived.Test.YtgdgkgeoigljcaaDoorCv
namespace Go.Proofs.YtgdgkgeoigljcaaDoor.Civ
open Go.ChangeShapes Go.WideShapes Go.ChangeAt Go.RowKit
set_option linter.unusedVariables false
set_option maxHeartbeats 400000 in
theorem rleap_any (y : Int) (w : World) :
    Calls Tryd.prog 73 #[.int .i64 y] w fun e w' => e = .returned (.bool (Cal.leap y)) ∧ w = w' := by
  go_enter Tryd.func73, Tryd.ntmps73
  go_wp2
  all_goals (have _t := Cal.tm y 4; have _u := Cal.tm y 100; have _v := Cal.tm y 400; go_ret; refine ⟨ret_bool ?_, rfl⟩; rw [Bool.eq_iff_iff, Cal.leap_iff]; simp; try omega)
theorem rlen_no (y m : Int) (w : World) (h : ¬ (1 ≤ y ∧ y ≤ 9999 ∧ 1 ≤ m ∧ m ≤ 12)) :
    Calls Tryd.prog 66 #[.int .i64 y, .int .i64 m] w fun e w' => e = .returned (.tuple #[.int .i64 0, .int .i64 1]) ∧ w = w' := by
  have hh : y < 1 ∨ (1 ≤ y ∧ 9999 < y) ∨ (1 ≤ y ∧ y ≤ 9999 ∧ m < 1) ∨ (1 ≤ y ∧ y ≤ 9999 ∧ 1 ≤ m ∧ 12 < m) := by omega
  clear h
  rcases hh with h1 | ⟨h1, h2⟩ | ⟨h1, h2, h3⟩ | ⟨h1, h2, h3, h4⟩
  all_goals
    go_enter Tryd.func66, Tryd.ntmps66
    go_wp2
    go_ret2
    exact ⟨rfl, rfl⟩
set_option maxHeartbeats 1600000 in
theorem rlen_yes (y m : Int) (w : World) (h1 : 1 ≤ y) (h2 : y ≤ 9999) (h3 : 1 ≤ m) (h4 : m ≤ 12) :
    Calls Tryd.prog 66 #[.int .i64 y, .int .i64 m] w fun e w' => e = .returned (.tuple #[.int .i64 (Cal.mlen y m), .int .i64 0]) ∧ w = w' := by
  have : m = 2 ∨ (m = 4 ∨ m = 6 ∨ m = 9 ∨ m = 11) ∨ (m = 1 ∨ m = 3 ∨ m = 5 ∨ m = 7 ∨ m = 8 ∨ m = 10 ∨ m = 12) := by omega
  rcases this with hm | hm | hm
  · subst hm
    cases hl : Cal.leap y <;> (
      have H := Lib.hid hl; clear hl
      go_enter Tryd.func66, Tryd.ntmps66
      go_wp2_with (go_at_call 73; refine (rleap_any _ _).mono ?_; rintro e w' ⟨rfl, rfl⟩; rw [H.out])
      go_ret2
      exact ⟨ret_two (by simp [Cal.mlen, H.out]) rfl, rfl⟩)
  · have e : Cal.mlen y m = 30 := by unfold Cal.mlen; rw [if_neg (by omega), if_pos hm]
    rw [e]; clear e
    rcases hm with h | h | h | h <;> subst h <;> (
      go_enter Tryd.func66, Tryd.ntmps66
      go_wp2
      go_ret2
      exact ⟨rfl, rfl⟩)
  · have e : Cal.mlen y m = 31 := by unfold Cal.mlen; rw [if_neg (by omega), if_neg (by omega)]
    rw [e]; clear e
    rcases hm with h | h | h | h | h | h | h <;> subst h <;> (
      go_enter Tryd.func66, Tryd.ntmps66
      go_wp2
      go_ret2
      exact ⟨rfl, rfl⟩)
theorem rlen_any (y m : Int) (w : World) :
    Calls Tryd.prog 66 #[.int .i64 y, .int .i64 m] w fun e w' => e = .returned (.tuple #[.int .i64 (Cal.lenV y m), .int .i64 (Cal.lenE y m)]) ∧ w = w' := by
  by_cases h : 1 ≤ y ∧ y ≤ 9999 ∧ 1 ≤ m ∧ m ≤ 12
  · have e := (Cal.okYM_iff y m).2 h
    unfold Cal.lenV Cal.lenE; rw [if_pos e, if_pos e]
    exact rlen_yes y m w h.1 h.2.1 h.2.2.1 h.2.2.2
  · have e := Cal.okYM_no h
    unfold Cal.lenV Cal.lenE; rw [e]
    exact rlen_no y m w h
end Go.Proofs.YtgdgkgeoigljcaaDoor.Civ
