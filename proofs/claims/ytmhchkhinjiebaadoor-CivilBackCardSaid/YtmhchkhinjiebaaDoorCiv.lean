/-
  THE CALENDAR's FUNCTIONS, WALKED: each returns what plain Lean says.
-/
import Derived.Test.YtmhchkhinjiebaaDoorRows
import Derived.Test.YtmhchkhinjiebaaDoorCalM
import Derived.WalkKit
import Derived.ProofKit
import Derived.Outline
import Derived.Lib.Hide
namespace Go.Proofs.YtmhchkhinjiebaaDoor.Civ
open Go.ChangeShapes Go.WideShapes Go.ChangeAt Go.RowKit
open Go.Proofs.YtmhchkhinjiebaaDoor (Cal.leap Cal.mlen Cal.tm)
set_option linter.unusedVariables false
theorem ret_bool {a b : Bool} (h : a = b) : Ending.returned (.bool a) = Ending.returned (.bool b) := by rw [h]
theorem ret_int {k : IntKind} {a b : Int} (h : a = b) : Ending.returned (.int k a) = Ending.returned (.int k b) := by rw [h]
theorem ret_two {k : IntKind} {a b c d : Int} (h : a = b) (h' : c = d) : Ending.returned (.tuple #[.int k a, .int .i64 c]) = Ending.returned (.tuple #[.int k b, .int .i64 d]) := by rw [h, h']

/-- the table of the months' lengths lies in block 0 -/
def lens : List Int := [31, 28, 31, 30, 31, 30, 31, 31, 30, 31, 30, 31]
def Tab (w : World) : Prop := 0 < w.heap.size ∧ ∀ i, i < 12 → w.cell? ⟨0, i, none⟩ = some (.int .i64 (lens.getD i 0))
theorem Tab.below {B : Nat} {w w' : World} (h : Tab w) (hB : 0 < B) (hb : Below B w w') : Tab w' := by
  refine ⟨Nat.lt_of_lt_of_le h.1 hb.size, fun i hi => ?_⟩
  rw [hb.cell (p := ⟨0, i, none⟩) hB]
  exact h.2 i hi
theorem lens_at (y m : Int) (h1 : 1 ≤ m) (h2 : m ≤ 12) (h : m ≠ 2 ∨ Cal.leap y = false) : lens.getD (m - 1).toNat 0 = Cal.mlen y m := by
  have : m = 1 ∨ m = 2 ∨ m = 3 ∨ m = 4 ∨ m = 5 ∨ m = 6 ∨ m = 7 ∨ m = 8 ∨ m = 9 ∨ m = 10 ∨ m = 11 ∨ m = 12 := by omega
  rcases this with e | e | e | e | e | e | e | e | e | e | e | e <;> subst e <;> simp [Cal.mlen, lens]
  rcases h with h | h
  · exact absurd rfl h
  · simp [h]

set_option maxHeartbeats 400000 in
theorem leap_any (y : Int) (w : World) :
    Calls Tryd.prog 15 #[.int .i64 y] w fun e w' => e = .returned (.bool (Cal.leap y)) ∧ w = w' := by
  go_enter Tryd.func15, Tryd.ntmps15
  go_wp2
  all_goals (have _t := Cal.tm y 4; have _u := Cal.tm y 100; have _v := Cal.tm y 400; go_ret; refine ⟨ret_bool ?_, rfl⟩; rw [Bool.eq_iff_iff, Cal.leap_iff]; simp; try omega)

set_option maxHeartbeats 400000 in
theorem rleap_any (y : Int) (w : World) :
    Calls Tryd.prog 16 #[.int .i64 y] w fun e w' => e = .returned (.bool (Cal.leap y)) ∧ w = w' := by
  go_enter Tryd.func16, Tryd.ntmps16
  go_wp2
  all_goals (have _t := Cal.tm y 4; have _u := Cal.tm y 100; have _v := Cal.tm y 400; go_ret; refine ⟨ret_bool ?_, rfl⟩; rw [Bool.eq_iff_iff, Cal.leap_iff]; simp; try omega)

theorem bnd_no {a lo hi : Int} (h : ¬ (lo ≤ a ∧ a ≤ hi)) : a < lo ∨ (lo ≤ a ∧ hi < a) := by omega
/-- each way out of bounds -/
theorem len_no (y m : Int) (w : World) (h : ¬ (1 ≤ y ∧ y ≤ 9999 ∧ 1 ≤ m ∧ m ≤ 12)) :
    Calls Tryd.prog 10 #[.int .i64 y, .int .i64 m] w fun e w' => e = .returned (.tuple #[.int .i64 0, .int .i64 1]) ∧ w = w' := by
  have hh : y < 1 ∨ (1 ≤ y ∧ 9999 < y) ∨ (1 ≤ y ∧ y ≤ 9999 ∧ m < 1) ∨ (1 ≤ y ∧ y ≤ 9999 ∧ 1 ≤ m ∧ 12 < m) := by omega
  clear h
  rcases hh with h1 | ⟨h1, h2⟩ | ⟨h1, h2, h3⟩ | ⟨h1, h2, h3, h4⟩
  all_goals
    go_enter Tryd.func10, Tryd.ntmps10
    go_wp2
    go_ret2
    exact ⟨rfl, rfl⟩
set_option maxHeartbeats 800000 in
theorem len_yes (y m : Int) (w : World) (h1 : 1 ≤ y) (h2 : y ≤ 9999) (h3 : 1 ≤ m) (h4 : m ≤ 12) (hT : Tab w) :
    Calls Tryd.prog 10 #[.int .i64 y, .int .i64 m] w fun e w' => e = .returned (.tuple #[.int .i64 (Cal.mlen y m), .int .i64 0]) ∧ w = w' := by
  by_cases hm : m = 2
  · subst hm
    cases hl : Cal.leap y
    · have hc := hT.2 1 (by omega)
      have H := Lib.hid hl; clear hl
      go_enter Tryd.func10, Tryd.ntmps10
      go_wp2_with (go_at_call 15; refine (leap_any _ _).mono ?_; rintro e w' ⟨rfl, rfl⟩; rw [H.out])
      go_ret2
      exact ⟨ret_two (by simp [Cal.mlen, H.out, lens]) rfl, rfl⟩
    · have H := Lib.hid hl; clear hl
      go_enter Tryd.func10, Tryd.ntmps10
      go_wp2_with (go_at_call 15; refine (leap_any _ _).mono ?_; rintro e w' ⟨rfl, rfl⟩; rw [H.out])
      go_ret2
      exact ⟨ret_two (by simp [Cal.mlen, H.out]) rfl, rfl⟩
  · have hb : (m == 2) = false := by simpa using hm
    have hc : w.cell? ⟨0, m.toNat - 1, none⟩ = some (.int .i64 (Cal.mlen y m)) := by
      rw [← lens_at y m h3 h4 (.inl hm), show (m - 1).toNat = m.toNat - 1 from by omega]; exact hT.2 _ (by omega)
    go_enter Tryd.func10, Tryd.ntmps10
    go_wp2
    go_ret2
    exact ⟨rfl, rfl⟩
theorem len_any (y m : Int) (w : World) (hT : Tab w) :
    Calls Tryd.prog 10 #[.int .i64 y, .int .i64 m] w fun e w' => e = .returned (.tuple #[.int .i64 (Cal.lenV y m), .int .i64 (Cal.lenE y m)]) ∧ w = w' := by
  by_cases h : 1 ≤ y ∧ y ≤ 9999 ∧ 1 ≤ m ∧ m ≤ 12
  · have e := (Cal.okYM_iff y m).2 h
    unfold Cal.lenV Cal.lenE; rw [if_pos e, if_pos e]
    exact len_yes y m w h.1 h.2.1 h.2.2.1 h.2.2.2 hT
  · have e := Cal.okYM_no h
    unfold Cal.lenV Cal.lenE; rw [e]
    exact len_no y m w h
theorem rlen_no (y m : Int) (w : World) (h : ¬ (1 ≤ y ∧ y ≤ 9999 ∧ 1 ≤ m ∧ m ≤ 12)) :
    Calls Tryd.prog 11 #[.int .i64 y, .int .i64 m] w fun e w' => e = .returned (.tuple #[.int .i64 0, .int .i64 1]) ∧ w = w' := by
  have hh : y < 1 ∨ (1 ≤ y ∧ 9999 < y) ∨ (1 ≤ y ∧ y ≤ 9999 ∧ m < 1) ∨ (1 ≤ y ∧ y ≤ 9999 ∧ 1 ≤ m ∧ 12 < m) := by omega
  clear h
  rcases hh with h1 | ⟨h1, h2⟩ | ⟨h1, h2, h3⟩ | ⟨h1, h2, h3, h4⟩
  all_goals
    go_enter Tryd.func11, Tryd.ntmps11
    go_wp2
    go_ret2
    exact ⟨rfl, rfl⟩
set_option maxHeartbeats 1600000 in
theorem rlen_yes (y m : Int) (w : World) (h1 : 1 ≤ y) (h2 : y ≤ 9999) (h3 : 1 ≤ m) (h4 : m ≤ 12) :
    Calls Tryd.prog 11 #[.int .i64 y, .int .i64 m] w fun e w' => e = .returned (.tuple #[.int .i64 (Cal.mlen y m), .int .i64 0]) ∧ w = w' := by
  have : m = 2 ∨ (m = 4 ∨ m = 6 ∨ m = 9 ∨ m = 11) ∨ (m = 1 ∨ m = 3 ∨ m = 5 ∨ m = 7 ∨ m = 8 ∨ m = 10 ∨ m = 12) := by omega
  rcases this with hm | hm | hm
  · subst hm
    cases hl : Cal.leap y <;> (
      have H := Lib.hid hl; clear hl
      go_enter Tryd.func11, Tryd.ntmps11
      go_wp2_with (go_at_call 16; refine (rleap_any _ _).mono ?_; rintro e w' ⟨rfl, rfl⟩; rw [H.out])
      go_ret2
      exact ⟨ret_two (by simp [Cal.mlen, H.out]) rfl, rfl⟩)
  · have e : Cal.mlen y m = 30 := by unfold Cal.mlen; rw [if_neg (by omega), if_pos hm]
    rw [e]; clear e
    rcases hm with h | h | h | h <;> subst h <;> (
      go_enter Tryd.func11, Tryd.ntmps11
      go_wp2
      go_ret2
      exact ⟨rfl, rfl⟩)
  · have e : Cal.mlen y m = 31 := by unfold Cal.mlen; rw [if_neg (by omega), if_neg (by omega)]
    rw [e]; clear e
    rcases hm with h | h | h | h | h | h | h <;> subst h <;> (
      go_enter Tryd.func11, Tryd.ntmps11
      go_wp2
      go_ret2
      exact ⟨rfl, rfl⟩)
theorem rlen_any (y m : Int) (w : World) :
    Calls Tryd.prog 11 #[.int .i64 y, .int .i64 m] w fun e w' => e = .returned (.tuple #[.int .i64 (Cal.lenV y m), .int .i64 (Cal.lenE y m)]) ∧ w = w' := by
  by_cases h : 1 ≤ y ∧ y ≤ 9999 ∧ 1 ≤ m ∧ m ≤ 12
  · have e := (Cal.okYM_iff y m).2 h
    unfold Cal.lenV Cal.lenE; rw [if_pos e, if_pos e]
    exact rlen_yes y m w h.1 h.2.1 h.2.2.1 h.2.2.2
  · have e := Cal.okYM_no h
    unfold Cal.lenV Cal.lenE; rw [e]
    exact rlen_no y m w h

/-! number: for the dates that its callers ask -/
theorem number_any (y m d : Int) (w : World) (h1 : 1 ≤ y) (h2 : y ≤ 10000) (h3 : 1 ≤ m) (h4 : m ≤ 12) (h5 : 1 ≤ d) (h6 : d ≤ 31) :
    Calls Tryd.prog 21 #[.int .i64 y, .int .i64 m, .int .i64 d] w fun e w' => e = .returned (.int .i64 (Cal.num y m d)) ∧ w = w' := by
  by_cases hm : m < 3
  · have hn : m - 3 < 0 := by omega
    have H := Cal.num_march y m d h3 h4
    unfold Cal.marchY Cal.marchM at H
    rw [if_pos (by omega), if_pos (by omega)] at H
    have HH := Lib.hid H; clear H
    go_enter Tryd.func21, Tryd.ntmps21
    go_wp2
    go_ret
    exact ⟨ret_int (by rw [HH.out]; omega), rfl⟩
  · have hn : ¬ m - 3 < 0 := by omega
    have H := Cal.num_march y m d h3 h4
    unfold Cal.marchY Cal.marchM at H
    rw [if_neg (by omega), if_neg (by omega)] at H
    have HH := Lib.hid H; clear H
    go_enter Tryd.func21, Tryd.ntmps21
    go_wp2
    go_ret
    exact ⟨ret_int (by rw [HH.out]; omega), rfl⟩
/-! First -/
theorem first_num (y : Int) : Cal.num y 1 1 = Cal.first y := by simp [Cal.num, Cal.cum]
theorem fir_any (y : Int) (w : World) :
    Calls Tryd.prog 12 #[.int .i64 y] w fun e w' => e = .returned (.tuple #[.int .i64 (Cal.firV y), .int .i64 (Cal.firE y)]) ∧ w = w' := by
  by_cases h : 1 ≤ y ∧ y ≤ 10000
  · have e := (Cal.okF_iff y).2 h
    unfold Cal.firV Cal.firE; rw [if_pos e, if_pos e, ← first_num]
    obtain ⟨h1, h2⟩ := h
    clear e
    go_enter Tryd.func12, Tryd.ntmps12
    go_wp2_with (go_at_call 21; refine (number_any _ _ _ _ (by omega) (by omega) (by omega) (by omega) (by omega) (by omega)).mono ?_; rintro e w' ⟨rfl, rfl⟩)
    go_ret2
    exact ⟨rfl, rfl⟩
  · have e := Cal.okF_no h
    unfold Cal.firV Cal.firE; rw [e]
    have hh : y < 1 ∨ (1 ≤ y ∧ 10000 < y) := by omega
    clear h e
    rcases hh with h1 | ⟨h1, h2⟩
    all_goals
      go_enter Tryd.func12, Tryd.ntmps12
      go_wp2
      go_ret2
      exact ⟨rfl, rfl⟩
theorem rfir_any (y : Int) (w : World) :
    Calls Tryd.prog 13 #[.int .i64 y] w fun e w' => e = .returned (.tuple #[.int .i64 (Cal.firV y), .int .i64 (Cal.firE y)]) ∧ w = w' := by
  by_cases h : 1 ≤ y ∧ y ≤ 10000
  · have e := (Cal.okF_iff y).2 h
    unfold Cal.firV Cal.firE; rw [if_pos e, if_pos e]
    obtain ⟨h1, h2⟩ := h
    clear e
    have H : Cal.first y = 365 * (y - 1) + (y - 1) / 4 - (y - 1) / 100 + (y - 1) / 400 - 719162 := rfl
    have HH := Lib.hid H; clear H
    go_enter Tryd.func13, Tryd.ntmps13
    go_wp2
    go_ret2
    exact ⟨ret_two HH.out.symm rfl, rfl⟩
  · have e := Cal.okF_no h
    unfold Cal.firV Cal.firE; rw [e]
    have hh : y < 1 ∨ (1 ≤ y ∧ 10000 < y) := by omega
    clear h e
    rcases hh with h1 | ⟨h1, h2⟩
    all_goals
      go_enter Tryd.func13, Tryd.ntmps13
      go_wp2
      go_ret2
      exact ⟨rfl, rfl⟩
/-! Weekday -/
theorem tmod7 (n : Int) : n.tmod 7 = n % 7 ∨ n.tmod 7 = n % 7 - 7 := by
  rw [Int.tmod_eq_emod]; split
  · left; simp
  · right; simp
theorem wd_any (n : Int) (w : World) :
    Calls Tryd.prog 19 #[.int .i64 n] w fun e w' => e = .returned (.int .i64 (Cal.wday n)) ∧ w = w' := by
  have H := tmod7 n
  go_enter Tryd.func19, Tryd.ntmps19
  go_wp2
  go_ret
  refine ⟨ret_int ?_, rfl⟩
  unfold Cal.wday
  omega
theorem rwd_any (n : Int) (w : World) :
    Calls Tryd.prog 20 #[.int .i64 n] w fun e w' => e = .returned (.int .i64 (Cal.wday n)) ∧ w = w' := by
  have H := tmod7 n
  by_cases hn : n.tmod 7 < 0
  all_goals
    go_enter Tryd.func20, Tryd.ntmps20
    go_wp2
    go_ret
    refine ⟨ret_int ?_, rfl⟩
    unfold Cal.wday
    omega
end Go.Proofs.YtmhchkhinjiebaaDoor.Civ
