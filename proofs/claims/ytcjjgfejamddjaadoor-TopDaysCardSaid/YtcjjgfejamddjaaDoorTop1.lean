/-
  THE STATEMENTS OF STAGE 1: TopDays and TopYear, walked.
-/
import Derived.Test.YtcjjgfejamddjaaDoorClk
namespace Go.Proofs.YtcjjgfejamddjaaDoor.Clk
open Go.ChangeShapes Go.WideShapes Go.ChangeAt Go.RowKit
open Go.Proofs.YtcjjgfejamddjaaDoor
open Go.Proofs.YtcjjgfejamddjaaDoor.Civ (Tab bcell ret_bool ret_int ret_two Inv)
set_option linter.unusedVariables false
set_option maxHeartbeats 800000 in
theorem begins1_any (w : World) (hT : Tab w) :
    Calls Tryd.prog 11 #[] w fun e w' => e = .returned (.bool true) ∧ Below w.heap.size w w' := by
  have i0 := Civ.Inv.start hT
  have e1 : Cal.numV 1970 1 2 = 1 := by decide
  have e2 : Cal.chkE 1970 1 2 = 0 := by decide
  have e3 : yrV 86400 = 1970 := by decide
  have e4 : yrE 86400 = 0 := by decide
  have e5 : Cal.wday 1 = 5 := by decide
  go_enter Tryd.func11, Tryd.ntmps11
  go_wp2_with fail
  refine (Civ.days_any _ _ _ _ i0.1).mono ?_; rintro e w1 ⟨rfl, hb1⟩
  have i1 := i0.call hb1
  go_wp2_with fail
  refine (year_any _ _ (by omega) (by omega)).mono ?_; rintro e w2 ⟨rfl, hb2⟩
  have i2 := i1.call hb2
  go_wp2_with fail
  refine (Civ.wd_any _ _).mono ?_; rintro e w3 ⟨rfl, rfl⟩
  go_wp2_with fail
  go_ret
  exact ⟨rfl, i2.2⟩
theorem wday_add (d k : Int) (hk : 0 ≤ k) : (Cal.wday d + k) % 7 = Cal.wday (d + k) := by unfold Cal.wday; omega
set_option maxRecDepth 100000 in
set_option maxHeartbeats 4000000 in
theorem topdays_off (t k : Int) (w : World) (hT : Tab w) (hlo : -9223372036854775808 ≤ t) (hhi : t ≤ 9223372036854775807) (hn : Cal.okN (t / 86400) = false) :
    Calls Tryd.prog 3 #[.int .i64 t, .int .u16 k] w fun e w' => e = .returned (.bool true) ∧ Below w.heap.size w w' := by
  have i0 := Civ.Inv.start hT
  obtain ⟨o1, o2, o3, o4⟩ := Civ.of_off4 hn
  have y1 : yrV t = 0 := o1
  have y2 : yrE t = 1 := o4
  clear hn
  go_enter Tryd.func3, Tryd.ntmps3
  go_wp2_with fail
  refine (begins1_any _ i0.1).mono ?_; rintro e w1 ⟨rfl, hb1⟩
  have i1 := i0.call hb1
  go_wp2_with fail
  refine (split_any _ _ hlo hhi).mono ?_; rintro e w2 ⟨rfl, rfl⟩
  go_wp2_with fail
  refine (Civ.of_any _ _).mono ?_; rintro e w2 ⟨rfl, hb2⟩
  have i2 := i1.call hb2
  have hz2 := hb2.size
  go_wp2_with fail
  refine (year_any _ _ hlo hhi).mono ?_; rintro e w3 ⟨rfl, hb3⟩
  obtain ⟨hc3, hf3⟩ := bcell hb3
  have i3 := (i2.alloc _).call hb3
  go_wp2_with fail
  go_ret
  exact ⟨rfl, i3.2⟩
set_option maxRecDepth 100000 in
set_option maxHeartbeats 4000000 in
theorem topdays_on (t k d o : Int) (w : World) (hT : Tab w) (hd : t / 86400 = d) (ho : t % 86400 = o) (hn : Cal.okN d = true) (hk0 : 0 ≤ k) (hk1 : k ≤ 65535) :
    Calls Tryd.prog 3 #[.int .i64 t, .int .u16 k] w fun e w' => e = .returned (.bool true) ∧ Below w.heap.size w w' := by
  have i0 := Civ.Inv.start hT
  obtain ⟨o1, o2, o3, o4⟩ := Civ.of_on4 hn
  have y1 : yrV t = Cal.dayY d := by unfold yrV; rw [hd]; exact o1
  have y2 : yrE t = 0 := by unfold yrE; rw [hd]; exact o4
  have hb := (Cal.okN_iff d).1 hn
  obtain ⟨hb1, hb2⟩ := hb
  have ht1 : -62135683200 ≤ t := by omega
  have ht2 : t ≤ 253402300800 := by omega
  have hd2 : (t + 86400 * k) / 86400 = d + k := by omega
  have ho2 : (t + 86400 * k) % 86400 = o := by omega
  have hw := wday_add d k hk0
  have hwb := Civ.wday_bd d
  obtain ⟨hwb1, hwb2⟩ := hwb
  clear hn
  by_cases he : d + k ≤ 2932896
  · have hN : Cal.okN (d + k) = true := (Cal.okN_iff _).2 (by omega)
    obtain ⟨p1, p2, p3, p4⟩ := Civ.of_on4 hN
    obtain ⟨r1, r2⟩ : Cal.numV (Cal.dayY (d + k)) (Cal.dayM (d + k)) (Cal.dayD (d + k)) = d + k ∧ Cal.chkE (Cal.dayY (d + k)) (Cal.dayM (d + k)) (Cal.dayD (d + k)) = 0 := by
      have := Civ.num_on (Cal.day_ok (d + k) (by omega) (by omega)); rw [Cal.day_num] at this; exact ⟨this.1, this.2.1⟩
    clear hN
    go_enter Tryd.func3, Tryd.ntmps3
    go_wp2_with fail
    refine (begins1_any _ i0.1).mono ?_; rintro e w1 ⟨rfl, hb1⟩
    have i1 := i0.call hb1
    go_wp2_with fail
    refine (split_any _ _ (by omega) (by omega)).mono ?_; rintro e w2 ⟨rfl, rfl⟩
    rw [hd, ho]
    go_wp2_with fail
    refine (Civ.of_any _ _).mono ?_; rintro e w2 ⟨rfl, hb2⟩
    have i2 := i1.call hb2
    go_wp2_with fail
    refine (year_any _ _ (by omega) (by omega)).mono ?_; rintro e w3 ⟨rfl, hb3⟩
    obtain ⟨hc3, hf3⟩ := bcell hb3
    have i3 := (i2.alloc _).call hb3
    go_wp2_with fail
    refine (split_any _ _ (by omega) (by omega)).mono ?_; rintro e w4 ⟨rfl, rfl⟩
    rw [hd2, ho2]
    go_wp2_with fail
    refine (Civ.of_any _ _).mono ?_; rintro e w4 ⟨rfl, hb4⟩
    have i4 := i3.call hb4
    go_wp2_with fail
    refine (Civ.wd_any _ _).mono ?_; rintro e w5 ⟨rfl, rfl⟩
    go_wp2_with fail
    refine (Civ.wd_any _ _).mono ?_; rintro e w5 ⟨rfl, rfl⟩
    go_wp2_with fail
    refine (Civ.days_any _ _ _ _ (i4.alloc _).1).mono ?_; rintro e w5 ⟨rfl, hb5⟩
    have i5 := (i4.alloc _).call hb5
    go_wp2_with fail
    go_ret
    exact ⟨rfl, i5.2⟩
  · have hN : Cal.okN (d + k) = false := Cal.okN_no (by omega)
    obtain ⟨p1, p2, p3, p4⟩ := Civ.of_off4 hN
    have r1 : Cal.numV 0 0 0 = 0 := by decide
    have r2 : Cal.chkE 0 0 0 = 1 := by decide
    clear hN
    go_enter Tryd.func3, Tryd.ntmps3
    go_wp2_with fail
    refine (begins1_any _ i0.1).mono ?_; rintro e w1 ⟨rfl, hb1⟩
    have i1 := i0.call hb1
    go_wp2_with fail
    refine (split_any _ _ (by omega) (by omega)).mono ?_; rintro e w2 ⟨rfl, rfl⟩
    rw [hd, ho]
    go_wp2_with fail
    refine (Civ.of_any _ _).mono ?_; rintro e w2 ⟨rfl, hb2⟩
    have i2 := i1.call hb2
    go_wp2_with fail
    refine (year_any _ _ (by omega) (by omega)).mono ?_; rintro e w3 ⟨rfl, hb3⟩
    obtain ⟨hc3, hf3⟩ := bcell hb3
    have i3 := (i2.alloc _).call hb3
    go_wp2_with fail
    refine (split_any _ _ (by omega) (by omega)).mono ?_; rintro e w4 ⟨rfl, rfl⟩
    rw [hd2, ho2]
    go_wp2_with fail
    refine (Civ.of_any _ _).mono ?_; rintro e w4 ⟨rfl, hb4⟩
    have i4 := i3.call hb4
    go_wp2_with fail
    refine (Civ.wd_any _ _).mono ?_; rintro e w5 ⟨rfl, rfl⟩
    go_wp2_with fail
    refine (Civ.wd_any _ _).mono ?_; rintro e w5 ⟨rfl, rfl⟩
    go_wp2_with fail
    refine (Civ.days_any _ _ _ _ (i4.alloc _).1).mono ?_; rintro e w5 ⟨rfl, hb5⟩
    have i5 := (i4.alloc _).call hb5
    go_wp2_with fail
    go_ret
    exact ⟨rfl, i5.2⟩
theorem topdays_any (t k : Int) (w : World) (hT : Tab w) (hlo : -9223372036854775808 ≤ t) (hhi : t ≤ 9223372036854775807) (hk0 : 0 ≤ k) (hk1 : k ≤ 65535) :
    Calls Tryd.prog 3 #[.int .i64 t, .int .u16 k] w fun e w' => e = .returned (.bool true) ∧ Below w.heap.size w w' := by
  cases hn : Cal.okN (t / 86400)
  · exact topdays_off t k w hT hlo hhi hn
  · exact topdays_on t k _ _ w hT rfl rfl hn hk0 hk1
end Go.Proofs.YtcjjgfejamddjaaDoor.Clk
