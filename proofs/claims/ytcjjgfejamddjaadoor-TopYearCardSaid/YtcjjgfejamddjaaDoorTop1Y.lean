/-
  THE STATEMENTS OF STAGE 1: TopYear, walked.
-/
import Derived.Test.YtcjjgfejamddjaaDoorTop1
import Derived.Deep.QuietTactic
import Derived.BigQuiet
namespace Go.Proofs.YtcjjgfejamddjaaDoor.Clk
open Go.ChangeShapes Go.WideShapes Go.ChangeAt Go.RowKit
open Go.Proofs.YtcjjgfejamddjaaDoor
open Go.Proofs.YtcjjgfejamddjaaDoor.Civ (Tab bcell ret_bool ret_int ret_two Inv)
set_option linter.unusedVariables false
theorem year_between (n : Int) (h : -719162 ≤ n ∧ n ≤ 2932896) : 1 ≤ Cal.dayY n ∧ Cal.dayY n ≤ 9999 ∧ Cal.first (Cal.dayY n) ≤ n ∧ n < Cal.first (Cal.dayY n + 1) := by
  have hd := Cal.day_ok n h.1 h.2
  have hb := Cal.num_bd _ _ _ hd
  rw [Cal.day_num] at hb
  have := (Cal.okD_iff _ _ _).1 hd
  omega
theorem year_is {n y : Int} (h : -719162 ≤ n ∧ n ≤ 2932896) (h1 : Cal.first y ≤ n) (h2 : n < Cal.first (y + 1)) : Cal.dayY n = y := by
  obtain ⟨a1, a2, a3, a4⟩ := year_between n h
  rcases Int.lt_trichotomy (Cal.dayY n) y with hh | hh | hh
  · have := Cal.first_mono (Cal.dayY n + 1) y (by omega); omega
  · exact hh
  · have := Cal.first_mono (y + 1) (Cal.dayY n) (by omega); omega
theorem yr_in {t y : Int} (h1 : 1 ≤ y) (h2 : y ≤ 9999) (ha : Cal.first y * 86400 ≤ t) (hb : t < Cal.first (y + 1) * 86400) : yrV t = y ∧ yrE t = 0 := by
  have fb1 : -719162 ≤ Cal.first y := by unfold Cal.first; omega
  have fb2 : Cal.first (y + 1) ≤ 2932897 := by unfold Cal.first; omega
  have hN : -719162 ≤ t / 86400 ∧ t / 86400 ≤ 2932896 := by omega
  obtain ⟨o1, o2, o3, o4⟩ := Civ.of_on4 ((Cal.okN_iff (t / 86400)).2 hN)
  unfold yrV yrE
  rw [o1, o4]
  exact ⟨year_is hN (by omega) (by omega), rfl⟩
theorem yr_out {t y : Int} (h1 : 1 ≤ y) (h2 : y ≤ 9999) (ha : t < Cal.first y * 86400 ∨ Cal.first (y + 1) * 86400 ≤ t) : (yrE t = 0 ∧ yrV t ≠ y) ∨ yrE t = 1 := by
  cases hN : Cal.okN (t / 86400)
  · obtain ⟨o1, o2, o3, o4⟩ := Civ.of_off4 hN
    exact Or.inr o4
  · obtain ⟨o1, o2, o3, o4⟩ := Civ.of_on4 hN
    unfold yrV yrE
    rw [o1, o4]
    refine Or.inl ⟨rfl, ?_⟩
    have hb := year_between _ ((Cal.okN_iff (t / 86400)).1 hN)
    intro hy
    rw [hy] at hb
    omega
theorem of_first {y : Int} (h1 : 1 ≤ y) (h2 : y ≤ 9999) : Cal.ofYV (Cal.first y) = y ∧ Cal.ofMV (Cal.first y) = 1 ∧ Cal.ofDV (Cal.first y) = 1 ∧ Cal.ofE (Cal.first y) = 0 := by
  have hD : Cal.okD y 1 1 = true := (Cal.okD_iff _ _ _).2 ⟨h1, h2, by omega, by omega, by omega, by have := Cal.mlen_bd y 1; omega⟩
  have he := Civ.first_num y
  have hd := Cal.day_of hD
  obtain ⟨_, _, hN⟩ := Civ.num_on hD
  rw [he] at hd hN
  obtain ⟨o1, o2, o3, o4⟩ := Civ.of_on4 hN
  exact ⟨o1.trans hd.1, o2.trans hd.2.1, o3.trans hd.2.2, o4⟩
theorem of_last {y : Int} (h1 : 1 ≤ y) (h2 : y ≤ 9999) : Cal.ofYV (Cal.first (y + 1) - 1) = y ∧ Cal.ofMV (Cal.first (y + 1) - 1) = 12 ∧ Cal.ofDV (Cal.first (y + 1) - 1) = 31 ∧ Cal.ofE (Cal.first (y + 1) - 1) = 0 := by
  have hm : Cal.mlen y 12 = 31 := by simp [Cal.mlen]
  have hD : Cal.okD y 12 31 = true := (Cal.okD_iff _ _ _).2 ⟨h1, h2, by omega, by omega, by omega, by omega⟩
  have he : Cal.num y 12 31 = Cal.first (y + 1) - 1 := by
    have a := Cal.cum_succ y 12 (by omega) (by omega)
    have b := Cal.cum_13 y
    have c := Cal.first_succ y
    unfold Cal.num
    rw [hm] at a
    have : (12 : Int) + 1 = 13 := rfl
    rw [this] at a
    omega
  have hd := Cal.day_of hD
  obtain ⟨_, _, hN⟩ := Civ.num_on hD
  rw [he] at hd hN
  obtain ⟨o1, o2, o3, o4⟩ := Civ.of_on4 hN
  exact ⟨o1.trans hd.1, o2.trans hd.2.1, o3.trans hd.2.2, o4⟩
theorem at_yes {d s : Int} (h : -719162 ≤ d ∧ d ≤ 2932896) (hs : -604800 ≤ s ∧ s ≤ 604800) : atV d s = d * 86400 + s ∧ atE d s = 0 := by
  have a := (Cal.okN_iff d).2 h
  have b : okS s = true := by unfold okS; simpa using hs
  unfold atV atE atOk
  rw [a, b]
  exact ⟨rfl, rfl⟩
theorem first_bd (y : Int) (h1 : 1 ≤ y) (h2 : y ≤ 10000) : -719162 ≤ Cal.first y ∧ Cal.first y ≤ 2932897 := by unfold Cal.first; omega
set_option maxRecDepth 100000 in
set_option maxHeartbeats 2000000 in
theorem topyear_off (y t : Int) (w : World) (hT : Tab w) (hy : ¬ (1 ≤ y ∧ y ≤ 9999)) (hb : -9223372036854775808 ≤ y ∧ y ≤ 9223372036854775807) :
    Calls Tryd.prog 4 #[.int .i64 y, .int .i64 t] w fun e w' => e = .returned (.bool true) ∧ Below w.heap.size w w' := by
  have i0 := Civ.Inv.start hT
  have hh : y < 1 ∨ (1 ≤ y ∧ y = 10000) ∨ (1 ≤ y ∧ 10000 < y) := by omega
  clear hy hb
  rcases hh with h1 | ⟨h1, h2⟩ | ⟨h1, h2⟩
  · obtain ⟨f1, f2⟩ := Civ.fir_off (y := y) (by omega)
    go_enter Tryd.func4, Tryd.ntmps4
    go_wp2_with fail
    refine (begins1_any _ i0.1).mono ?_; rintro e w1 ⟨rfl, hb1⟩
    go_wp2_with fail
    refine (Civ.fir_any _ _).mono ?_; rintro e w2 ⟨rfl, rfl⟩
    go_wp2_with fail
    refine (Civ.fir_any _ _).mono ?_; rintro e w2 ⟨rfl, rfl⟩
    go_wp2_with fail
    go_ret
    exact ⟨rfl, hb1⟩
  · subst h2
    have f2 : Cal.firE 10000 = 0 := by decide
    have f3 : Cal.firE 10001 = 1 := by decide
    go_enter Tryd.func4, Tryd.ntmps4
    go_wp2_with fail
    refine (begins1_any _ i0.1).mono ?_; rintro e w1 ⟨rfl, hb1⟩
    go_wp2_with fail
    refine (Civ.fir_any _ _).mono ?_; rintro e w2 ⟨rfl, rfl⟩
    go_wp2_with fail
    refine (Civ.fir_any _ _).mono ?_; rintro e w2 ⟨rfl, rfl⟩
    go_wp2_with fail
    go_ret
    exact ⟨rfl, hb1⟩
  · obtain ⟨f1, f2⟩ := Civ.fir_off (y := y) (by omega)
    go_enter Tryd.func4, Tryd.ntmps4
    go_wp2_with fail
    refine (begins1_any _ i0.1).mono ?_; rintro e w1 ⟨rfl, hb1⟩
    go_wp2_with fail
    refine (Civ.fir_any _ _).mono ?_; rintro e w2 ⟨rfl, rfl⟩
    go_wp2_with fail
    refine (Civ.fir_any _ _).mono ?_; rintro e w2 ⟨rfl, rfl⟩
    go_wp2_with fail
    go_ret
    exact ⟨rfl, hb1⟩
set_option maxRecDepth 100000 in
set_option maxHeartbeats 8000000 in
theorem topyear_on (y t : Int) (w : World) (hT : Tab w) (h1 : 1 ≤ y) (h2 : y ≤ 9999) (hlo : -9223372036854775808 ≤ t) (hhi : t ≤ 9223372036854775807) :
    Calls Tryd.prog 4 #[.int .i64 y, .int .i64 t] w fun e w' => e = .returned (.bool true) ∧ Below w.heap.size w w' := by
  have i0 := Civ.Inv.start hT
  obtain ⟨f1, f2⟩ := Civ.fir_on (y := y) (by omega) (by omega)
  obtain ⟨g1, g2⟩ := Civ.fir_on (y := y + 1) (by omega) (by omega)
  obtain ⟨a1, a2, a3, a4⟩ := of_first h1 h2
  obtain ⟨b1, b2, b3, b4⟩ := of_last h1 h2
  have hm := Cal.first_mono y (y + 1) (by omega)
  obtain ⟨fb1, fb2⟩ := first_bd y (by omega) (by omega)
  obtain ⟨gb1, gb2⟩ := first_bd (y + 1) (by omega) (by omega)
  obtain ⟨c1, c2⟩ := at_yes (d := Cal.first y) (s := 0) (by omega) (by omega)
  obtain ⟨d1, d2⟩ := at_yes (d := Cal.first (y + 1) - 1) (s := 86400) (by omega) (by omega)
  have hin := Lib.hid (fun ha hb => yr_in (t := t) h1 h2 ha hb)
  have hout := Lib.hid (fun ha => yr_out (t := t) h1 h2 ha)
  generalize Cal.first y = A at *
  generalize Cal.first (y + 1) = B at *
  go_enter Tryd.func4, Tryd.ntmps4
  go_wp2_with fail
  refine (begins1_any _ i0.1).mono ?_; rintro e w1 ⟨rfl, hb1⟩
  have i1 := i0.call hb1
  go_wp2_with fail
  refine (Civ.fir_any _ _).mono ?_; rintro e w2 ⟨rfl, rfl⟩
  rw [f1, f2]
  go_wp2_with fail
  refine (Civ.fir_any _ _).mono ?_; rintro e w2 ⟨rfl, rfl⟩
  rw [g1, g2]
  go_wp2_with fail
  refine (Civ.of_any _ _).mono ?_; rintro e w2 ⟨rfl, hb2⟩
  rw [a1, a2, a3, a4]
  have i2 := i1.call hb2
  have hz2 := hb2.size
  go_wp2_with fail
  refine (Civ.of_any _ _).mono ?_; rintro e w3 ⟨rfl, hb3⟩
  rw [b1, b2, b3, b4]
  obtain ⟨hc3, hf3⟩ := bcell hb3
  have i3 := (i2.alloc _).call hb3
  have hz3 : w2.heap.size < w3.heap.size := by have := hb3.size; simp at this; omega
  go_wp2_with fail
  refine (at_any _ _ _).mono ?_; rintro e w4 ⟨rfl, hb4⟩
  rw [c1, c2]
  obtain ⟨hc4, hf4⟩ := bcell hb4
  have i4 := (i3.alloc _).call hb4
  have hz4 : w2.heap.size < w4.heap.size := by have := hb4.size; simp at this; omega
  have hz4' : w3.heap.size < w4.heap.size := by have := hb4.size; simp at this; omega
  go_wp2_with fail
  refine (at_any _ _ _).mono ?_; rintro e w5 ⟨rfl, hb5⟩
  rw [d1, d2]
  obtain ⟨hc5, hf5⟩ := bcell hb5
  have i5 := i4.call hb5
  have hz5 : w2.heap.size < w5.heap.size := by have := hb5.size; omega
  have hz5' : w3.heap.size < w5.heap.size := by have := hb5.size; omega
  go_wp2_with fail
  refine (year_any _ _ hlo hhi).mono ?_; rintro e w6 ⟨rfl, hb6⟩
  obtain ⟨hc6, hf6⟩ := bcell hb6
  have i6 := i5.call hb6
  have hz6 : w2.heap.size < w6.heap.size := by have := hb6.size; omega
  have hz6' : w3.heap.size < w6.heap.size := by have := hb6.size; omega
  have hcase : (A * 86400 ≤ t ∧ t < B * 86400) ∨ (A * 86400 > t) ∨ (A * 86400 ≤ t ∧ B * 86400 ≤ t) := by omega
  rcases hcase with ⟨k1, k2⟩ | k1 | ⟨k1, k2⟩
  · obtain ⟨y1, y2⟩ := hin.out k1 k2
    go_wp2_with fail
    go_ret
    exact ⟨ret_bool (by first | rfl | (simp; omega) | (simp; exact y1) | (rw [decide_eq_false (by omega)]; simpa using y2)), i6.2⟩
  · rcases hout.out (Or.inl k1) with ⟨y1, y2⟩ | y1
    all_goals
      go_wp2_with fail
      go_ret
      exact ⟨ret_bool (by first | rfl | (simp; omega) | (simp; exact y1) | (rw [decide_eq_false (by omega)]; simpa using y2)), i6.2⟩
  · rcases hout.out (Or.inr k2) with ⟨y1, y2⟩ | y1
    all_goals
      go_wp2_with fail
      go_ret
      exact ⟨ret_bool (by first | rfl | (simp; omega) | (simp; exact y1) | (rw [decide_eq_false (by omega)]; simpa using y2)), i6.2⟩
theorem topyear_any (y t : Int) (w : World) (hT : Tab w) (hb : -9223372036854775808 ≤ y ∧ y ≤ 9223372036854775807) (hlo : -9223372036854775808 ≤ t) (hhi : t ≤ 9223372036854775807) :
    Calls Tryd.prog 4 #[.int .i64 y, .int .i64 t] w fun e w' => e = .returned (.bool true) ∧ Below w.heap.size w w' := by
  by_cases h : 1 ≤ y ∧ y ≤ 9999
  · exact topyear_on y t w hT h.1 h.2 hlo hhi
  · exact topyear_off y t w hT h hb
end Go.Proofs.YtcjjgfejamddjaaDoor.Clk
