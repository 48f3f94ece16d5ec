/-
  THE CALENDAR's STATEMENTS: CivilYears, walked.
-/
import Derived.Test.YtmhchkhinjiebaaDoorCivD
namespace Go.Proofs.YtmhchkhinjiebaaDoor.Civ
open Go.ChangeShapes Go.WideShapes Go.ChangeAt Go.RowKit
set_option linter.unusedVariables false
theorem fir_on {y : Int} (h1 : 1 ≤ y) (h2 : y ≤ 10000) : Cal.firV y = Cal.first y ∧ Cal.firE y = 0 := by
  unfold Cal.firV Cal.firE; rw [if_pos ((Cal.okF_iff y).2 ⟨h1, h2⟩), if_pos ((Cal.okF_iff y).2 ⟨h1, h2⟩)]; exact ⟨rfl, rfl⟩
theorem fir_off {y : Int} (h : ¬ (1 ≤ y ∧ y ≤ 10000)) : Cal.firV y = 0 ∧ Cal.firE y = 1 := by
  unfold Cal.firV Cal.firE; rw [Cal.okF_no h]; exact ⟨rfl, rfl⟩
theorem first_400 (y : Int) : Cal.first (y + 400) = Cal.first y + 146097 := by unfold Cal.first; omega
theorem first_bd (y : Int) (h1 : 1 ≤ y) (h2 : y ≤ 10000) : -719162 ≤ Cal.first y ∧ Cal.first y ≤ 2932897 := by unfold Cal.first; omega
theorem wday_400 (n : Int) : Cal.wday (n + 146097) = Cal.wday n := by unfold Cal.wday; omega
theorem sub_lem (a b : Int) : a + b - a = b := by omega
set_option maxHeartbeats 2000000 in
theorem years_off (y : Int) (w : World) (hT : Tab w) (hy : ¬ (1 ≤ y ∧ y ≤ 9999)) (hb : -9223372036854775808 ≤ y ∧ y ≤ 9223372036854775807) :
    Calls Tryd.prog 5 #[.int .i64 y] w fun e w' => e = .returned (.bool true) ∧ Below w.heap.size w w' := by
  have i0 := Inv.start hT
  have hh : y < 1 ∨ (1 ≤ y ∧ y = 10000) ∨ (1 ≤ y ∧ 10000 < y) := by omega
  clear hy hb
  rcases hh with h1 | ⟨h1, h2⟩ | ⟨h1, h2⟩
  · obtain ⟨f1, f2⟩ := fir_off (y := y) (by omega)
    go_enter Tryd.func5, Tryd.ntmps5
    go_wp2_with fail
    refine (lives_any _ i0.1).mono ?_; rintro e w1 ⟨rfl, hb1⟩
    go_wp2_with fail
    refine (fir_any _ _).mono ?_; rintro e w2 ⟨rfl, rfl⟩
    go_wp2_with fail
    refine (fir_any _ _).mono ?_; rintro e w2 ⟨rfl, rfl⟩
    go_wp2_with fail
    go_ret
    exact ⟨rfl, hb1⟩
  · subst h2
    have f2 : Cal.firE 10000 = 0 := by decide
    have f3 : Cal.firE 10001 = 1 := by decide
    go_enter Tryd.func5, Tryd.ntmps5
    go_wp2_with fail
    refine (lives_any _ i0.1).mono ?_; rintro e w1 ⟨rfl, hb1⟩
    go_wp2_with fail
    refine (fir_any _ _).mono ?_; rintro e w2 ⟨rfl, rfl⟩
    go_wp2_with fail
    refine (fir_any _ _).mono ?_; rintro e w2 ⟨rfl, rfl⟩
    go_wp2_with fail
    go_ret
    exact ⟨rfl, hb1⟩
  · obtain ⟨f1, f2⟩ := fir_off (y := y) (by omega)
    go_enter Tryd.func5, Tryd.ntmps5
    go_wp2_with fail
    refine (lives_any _ i0.1).mono ?_; rintro e w1 ⟨rfl, hb1⟩
    go_wp2_with fail
    refine (fir_any _ _).mono ?_; rintro e w2 ⟨rfl, rfl⟩
    go_wp2_with fail
    refine (fir_any _ _).mono ?_; rintro e w2 ⟨rfl, rfl⟩
    go_wp2_with fail
    go_ret
    exact ⟨rfl, hb1⟩
set_option maxHeartbeats 4000000 in
theorem years_on (y : Int) (w : World) (hT : Tab w) (h1 : 1 ≤ y) (h2 : y ≤ 9999) :
    Calls Tryd.prog 5 #[.int .i64 y] w fun e w' => e = .returned (.bool true) ∧ Below w.heap.size w w' := by
  have i0 := Inv.start hT
  obtain ⟨f1, f2⟩ := fir_on (y := y) (by omega) (by omega)
  obtain ⟨g1, g2⟩ := fir_on (y := y + 1) (by omega) (by omega)
  have fs := Cal.first_succ y
  have c13 := Cal.cum_13 y
  have fb := first_bd y (by omega) (by omega)
  obtain ⟨fb1, fb2⟩ := fb
  have HFS := Lib.hid fs; have C13 := Lib.hid c13
  clear fs c13
  go_enter Tryd.func5, Tryd.ntmps5
  go_wp2_with fail
  refine (lives_any _ i0.1).mono ?_; rintro e w1 ⟨rfl, hb1⟩
  have i1 := i0.call hb1
  go_wp2_with fail
  refine (fir_any _ _).mono ?_; rintro e w2 ⟨rfl, rfl⟩
  go_wp2_with fail
  refine (fir_any _ _).mono ?_; rintro e w2 ⟨rfl, rfl⟩
  go_wp2_with fail
  go_loop [7, 8] (fun n i => ∃ m : Int, 1 ≤ m ∧ m ≤ 13 ∧ i = .int .i64 m ∧ n = .int .i64 (Cal.cum y m)) (fun _ i => (13 - intOf i).toNat)
  case atStart => exact ⟨1, by omega, by omega, rfl, by simp [Cal.cum]⟩
  case round =>
    obtain ⟨m, m1, m2, rfl, rfl⟩ := hrel
    have cb := Cal.cum_bd y m m1 m2
    obtain ⟨cb1, cb2⟩ := cb
    by_cases hm : m ≤ 12
    · obtain ⟨l1, l2⟩ := len_of ((Cal.okYM_iff y m).2 ⟨h1, h2, m1, hm⟩)
      have CS := Lib.hid (Cal.cum_succ y m m1 hm)
      have mb := Cal.mlen_bd y m
      go_wp2_with fail
      refine (len_any _ _ _ i1.1).mono ?_; rintro e w2 ⟨rfl, rfl⟩
      go_wp2_with fail
      go_round
      case rel => exact ⟨m + 1, by omega, by omega, rfl, by rw [CS.out]⟩
      case measure => simp [intOf]; omega
    · obtain rfl : m = 13 := by omega
      cases hl : Cal.leap y
      all_goals
        have fs := HFS.out
        have c13 := C13.out
        simp only [hl, if_true, if_false, Bool.false_eq_true] at fs c13
        have fd := sub_lem (Cal.first y) 365
        have fd' := sub_lem (Cal.first y) 366
        have HL := Lib.hid hl
        clear hl
        have hg : y + 400 ≤ 10000 ∨ 10000 < y + 400 := by omega
        rcases hg with hg | hg
        · obtain ⟨k1, k2⟩ := fir_on (y := y + 400) (by omega) (by omega)
          have k3 := first_400 y
          have k4 : Cal.first y + 146097 - Cal.first y = 146097 := by omega
          have k5 := wday_400 (Cal.first y)
          rw [k3] at k1
          clear k3
          go_wp2_with fail
          refine (leap_any _ _).mono ?_; rintro e w2 ⟨rfl, rfl⟩
          rw [HL.out]
          go_wp2_with fail
          refine (fir_any _ _).mono ?_; rintro e w2 ⟨rfl, rfl⟩
          go_wp2_with fail
          refine (wd_any _ _).mono ?_; rintro e w2 ⟨rfl, rfl⟩
          go_wp2_with fail
          refine (wd_any _ _).mono ?_; rintro e w2 ⟨rfl, rfl⟩
          go_wp2_with fail
          go_ret
          exact ⟨rfl, i1.2⟩
        · obtain ⟨k1, k2⟩ := fir_off (y := y + 400) (by omega)
          go_wp2_with fail
          refine (leap_any _ _).mono ?_; rintro e w2 ⟨rfl, rfl⟩
          rw [HL.out]
          go_wp2_with fail
          refine (fir_any _ _).mono ?_; rintro e w2 ⟨rfl, rfl⟩
          go_wp2_with fail
          go_ret
          exact ⟨rfl, i1.2⟩
theorem years_any (y : Int) (w : World) (hT : Tab w) (hb : -9223372036854775808 ≤ y ∧ y ≤ 9223372036854775807) :
    Calls Tryd.prog 5 #[.int .i64 y] w fun e w' => e = .returned (.bool true) ∧ Below w.heap.size w w' := by
  by_cases h : 1 ≤ y ∧ y ≤ 9999
  · exact years_on y w hT h.1 h.2
  · exact years_off y w hT h hb
end Go.Proofs.YtmhchkhinjiebaaDoor.Civ
