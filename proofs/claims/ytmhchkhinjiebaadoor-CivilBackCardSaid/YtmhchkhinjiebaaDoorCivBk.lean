/-
  THE CALENDAR's STATEMENTS: CivilBack, walked.
-/
import Derived.Test.YtmhchkhinjiebaaDoorCivD
namespace Go.Proofs.YtmhchkhinjiebaaDoor.Civ
open Go.ChangeShapes Go.WideShapes Go.ChangeAt Go.RowKit
set_option linter.unusedVariables false
theorem of_on4 {n : Int} (h : Cal.okN n = true) : Cal.ofYV n = Cal.dayY n ∧ Cal.ofMV n = Cal.dayM n ∧ Cal.ofDV n = Cal.dayD n ∧ Cal.ofE n = 0 := by
  unfold Cal.ofYV Cal.ofMV Cal.ofDV Cal.ofE; simp [h]
theorem of_off4 {n : Int} (h : Cal.okN n = false) : Cal.ofYV n = 0 ∧ Cal.ofMV n = 0 ∧ Cal.ofDV n = 0 ∧ Cal.ofE n = 1 := by
  unfold Cal.ofYV Cal.ofMV Cal.ofDV Cal.ofE; simp [h]
/-- the next day is the next date -/
theorem next_day (n : Int) (h0 : -719162 ≤ n) (h1 : n + 1 ≤ 2932896) :
    (Cal.dayD n < Cal.mlen (Cal.dayY n) (Cal.dayM n) → Cal.dayY (n + 1) = Cal.dayY n ∧ Cal.dayM (n + 1) = Cal.dayM n ∧ Cal.dayD (n + 1) = Cal.dayD n + 1) ∧
    (¬ Cal.dayD n < Cal.mlen (Cal.dayY n) (Cal.dayM n) → Cal.dayM n < 12 → Cal.dayY (n + 1) = Cal.dayY n ∧ Cal.dayM (n + 1) = Cal.dayM n + 1 ∧ Cal.dayD (n + 1) = 1) ∧
    (¬ Cal.dayD n < Cal.mlen (Cal.dayY n) (Cal.dayM n) → ¬ Cal.dayM n < 12 → Cal.dayY (n + 1) = Cal.dayY n + 1 ∧ Cal.dayM (n + 1) = 1 ∧ Cal.dayD (n + 1) = 1) := by
  have ok := Cal.day_ok n h0 (by omega)
  have nm := Cal.day_num n
  have ok' := Cal.day_ok (n + 1) (by omega) h1
  have nm' := Cal.day_num (n + 1)
  have hb := Cal.num_bd _ _ _ ok'
  rw [nm'] at hb
  rw [Cal.okD_iff] at ok
  obtain ⟨a1, a2, a3, a4, a5, a6⟩ := ok
  unfold Cal.num at nm
  refine ⟨fun h => ?_, fun h h' => ?_, fun h h' => ?_⟩
  · exact Cal.num_inj ok' ((Cal.okD_iff _ _ _).2 ⟨a1, a2, a3, a4, by omega, by omega⟩) (by rw [nm']; unfold Cal.num; omega)
  · have cs := Cal.cum_succ (Cal.dayY n) (Cal.dayM n) a3 a4
    have mb := Cal.mlen_bd (Cal.dayY n) (Cal.dayM n + 1)
    exact Cal.num_inj ok' ((Cal.okD_iff _ _ _).2 ⟨a1, a2, by omega, by omega, by omega, by omega⟩) (by rw [nm']; unfold Cal.num; omega)
  · have e12 : Cal.dayM n = 12 := by omega
    have cs := Cal.cum_succ (Cal.dayY n) 12 (by omega) (by omega)
    have c13 := Cal.cum_13 (Cal.dayY n)
    have fs := Cal.first_succ (Cal.dayY n)
    rw [e12] at nm h a6
    have e13 : (12 : Int) + 1 = 13 := rfl
    rw [e13, c13] at cs
    have c1 : Cal.cum (Cal.dayY n + 1) 1 = 0 := by simp [Cal.cum]
    have hn : Cal.num (Cal.dayY n + 1) 1 1 = n + 1 := by unfold Cal.num; rw [c1, fs]; omega
    have y1 : Cal.dayY n + 1 ≤ 9999 := by
      rcases Int.lt_or_le (Cal.dayY n + 1) 10000 with g | g
      · omega
      · have := Cal.first_mono 10000 (Cal.dayY n + 1) g
        have e2 : Cal.first 10000 = 2932897 := by decide
        unfold Cal.num at hn; rw [c1] at hn; omega
    have mb := Cal.mlen_bd (Cal.dayY n + 1) 1
    exact Cal.num_inj ok' ((Cal.okD_iff _ _ _).2 ⟨by omega, y1, by omega, by omega, by omega, by omega⟩) (by rw [nm', hn])
theorem wday_next (n : Int) : (Cal.wday n + 1) % 7 = Cal.wday (n + 1) := by unfold Cal.wday; omega
theorem wday_bd (n : Int) : 0 ≤ Cal.wday n ∧ Cal.wday n ≤ 6 := by unfold Cal.wday; omega
theorem num_on {y m d : Int} (h : Cal.okD y m d = true) : Cal.numV y m d = Cal.num y m d ∧ Cal.chkE y m d = 0 ∧ Cal.okN (Cal.num y m d) = true := by
  unfold Cal.numV Cal.chkE; rw [if_pos h, if_pos h]; exact ⟨rfl, rfl, (Cal.okN_iff _).2 (Cal.num_range h)⟩
theorem num_off {y m d : Int} (h : ¬ Cal.okD y m d = true) : Cal.numV y m d = 0 ∧ Cal.chkE y m d = 1 := by
  unfold Cal.numV Cal.chkE; rw [if_neg h, if_neg h]; exact ⟨rfl, rfl⟩
set_option maxHeartbeats 2000000 in
theorem back_y_off (y m d n : Int) (w : World) (hT : Tab w) (hk : Cal.okD y m d = true) (hn : Cal.okN n = false) :
    Calls Tryd.prog 4 #[.int .i64 n, dateV y m d] w fun e w' => e = .returned (.bool true) ∧ Below w.heap.size w w' := by
  have i0 := Inv.start hT
  obtain ⟨k1, k2, k3⟩ := num_on hk
  obtain ⟨p1, p2, p3⟩ := Cal.day_of hk
  obtain ⟨q1, q2, q3, q4⟩ := of_on4 k3
  rw [p1] at q1; rw [p2] at q2; rw [p3] at q3
  clear p1 p2 p3 k3 hk
  obtain ⟨o1, o2, o3, o4⟩ := of_off4 hn
  have hn' : ¬ (-719162 ≤ n ∧ n ≤ 2932896) := fun h => by rw [(Cal.okN_iff n).2 h] at hn; cases hn
  have hh : n < -719162 ∨ (-719162 ≤ n ∧ 2932896 < n) := by omega
  clear hn hn'
  rcases hh with h1 | ⟨h1, h2⟩
  · go_enter Tryd.func4, Tryd.ntmps4
    go_wp2_with fail
    refine (lives_any _ (i0.alloc _).1).mono ?_; rintro e w1 ⟨rfl, hb1⟩
    obtain ⟨hc1, hf1⟩ := bcell hb1
    have i1 := (i0.alloc _).call hb1
    have hz1 : w.heap.size < w1.heap.size := by have := hb1.size; simp at this; omega
    go_wp2_with fail
    refine (days_any _ _ _ _ i1.1).mono ?_; rintro e w2 ⟨rfl, hb2⟩
    obtain ⟨hc2, hf2⟩ := bcell hb2
    have i2 := i1.call hb2
    have hz2 : w.heap.size < w2.heap.size := by have := hb2.size; omega
    go_wp2_with fail
    refine (of_any _ _).mono ?_; rintro e w3 ⟨rfl, hb3⟩
    obtain ⟨hc3, hf3⟩ := bcell hb3
    have i3 := (i2.call hb3).alloc (.cells #[.int .i64 y, .int .i64 m, .int .i64 d] 23)
    have hz3 : w.heap.size < w3.heap.size := by have := hb3.size; omega
    go_wp2_with fail
    refine (of_any _ _).mono ?_; rintro e w4 ⟨rfl, hb4⟩
    have i4 := i3.call hb4
    clear hc1 hc2 hf1 hf2 hz1 hz2 hb1 hb2 i0 i1 i2 i3 hc3 hf3 hz3
    go_wp2_with fail
    go_ret
    exact ⟨rfl, (i4.alloc _).2⟩
  · go_enter Tryd.func4, Tryd.ntmps4
    go_wp2_with fail
    refine (lives_any _ (i0.alloc _).1).mono ?_; rintro e w1 ⟨rfl, hb1⟩
    obtain ⟨hc1, hf1⟩ := bcell hb1
    have i1 := (i0.alloc _).call hb1
    have hz1 : w.heap.size < w1.heap.size := by have := hb1.size; simp at this; omega
    go_wp2_with fail
    refine (days_any _ _ _ _ i1.1).mono ?_; rintro e w2 ⟨rfl, hb2⟩
    obtain ⟨hc2, hf2⟩ := bcell hb2
    have i2 := i1.call hb2
    have hz2 : w.heap.size < w2.heap.size := by have := hb2.size; omega
    go_wp2_with fail
    refine (of_any _ _).mono ?_; rintro e w3 ⟨rfl, hb3⟩
    obtain ⟨hc3, hf3⟩ := bcell hb3
    have i3 := (i2.call hb3).alloc (.cells #[.int .i64 y, .int .i64 m, .int .i64 d] 23)
    have hz3 : w.heap.size < w3.heap.size := by have := hb3.size; omega
    go_wp2_with fail
    refine (of_any _ _).mono ?_; rintro e w4 ⟨rfl, hb4⟩
    have i4 := i3.call hb4
    clear hc1 hc2 hf1 hf2 hz1 hz2 hb1 hb2 i0 i1 i2 i3 hc3 hf3 hz3
    go_wp2_with fail
    go_ret
    exact ⟨rfl, (i4.alloc _).2⟩
set_option maxHeartbeats 2000000 in
theorem back_y_last (y m d n : Int) (w : World) (hT : Tab w) (hk : Cal.okD y m d = true) (hn : n = 2932896) :
    Calls Tryd.prog 4 #[.int .i64 n, dateV y m d] w fun e w' => e = .returned (.bool true) ∧ Below w.heap.size w w' := by
  have i0 := Inv.start hT
  obtain ⟨k1, k2, k3⟩ := num_on hk
  obtain ⟨p1, p2, p3⟩ := Cal.day_of hk
  obtain ⟨q1, q2, q3, q4⟩ := of_on4 k3
  rw [p1] at q1; rw [p2] at q2; rw [p3] at q3
  clear p1 p2 p3 k3 hk
  subst hn
  have hO : Cal.okN 2932896 = true := by decide
  obtain ⟨o1, o2, o3, o4⟩ := of_on4 hO
  obtain ⟨r1, r2⟩ : Cal.numV (Cal.dayY 2932896) (Cal.dayM 2932896) (Cal.dayD 2932896) = 2932896 ∧ Cal.chkE (Cal.dayY 2932896) (Cal.dayM 2932896) (Cal.dayD 2932896) = 0 := by
    have := num_on (Cal.day_ok 2932896 (by omega) (by omega)); rw [Cal.day_num] at this; exact ⟨this.1, this.2.1⟩
  have l4 : Cal.ofE 2932897 = 1 := by decide
  clear hO
  go_enter Tryd.func4, Tryd.ntmps4
  go_wp2_with fail
  refine (lives_any _ (i0.alloc _).1).mono ?_; rintro e w1 ⟨rfl, hb1⟩
  obtain ⟨hc1, hf1⟩ := bcell hb1
  have i1 := (i0.alloc _).call hb1
  have hz1 : w.heap.size < w1.heap.size := by have := hb1.size; simp at this; omega
  go_wp2_with fail
  refine (days_any _ _ _ _ i1.1).mono ?_; rintro e w2 ⟨rfl, hb2⟩
  obtain ⟨hc2, hf2⟩ := bcell hb2
  have i2 := i1.call hb2
  have hz2 : w.heap.size < w2.heap.size := by have := hb2.size; omega
  go_wp2_with fail
  refine (of_any _ _).mono ?_; rintro e w3 ⟨rfl, hb3⟩
  obtain ⟨hc3, hf3⟩ := bcell hb3
  have i3 := (i2.call hb3).alloc (.cells #[.int .i64 y, .int .i64 m, .int .i64 d] 23)
  have hz3 : w.heap.size < w3.heap.size := by have := hb3.size; omega
  go_wp2_with fail
  refine (of_any _ _).mono ?_; rintro e w4 ⟨rfl, hb4⟩
  have i4 := i3.call hb4
  clear hc1 hc2 hf1 hf2 hz1 hz2 hb1 hb2 i0 i1 i2 i3 hc3 hf3 hz3
  go_wp2_with fail
  refine (days_any _ _ _ _ (i4.alloc _).1).mono ?_; rintro e w5 ⟨rfl, hb5⟩
  obtain ⟨hc5, hf5⟩ := bcell hb5
  have i5 := (i4.alloc _).call hb5
  have hz5 : w4.heap.size < w5.heap.size := by have := hb5.size; simp at this; omega
  go_wp2_with fail
  refine (chk_any _ _ _ _ i5.1).mono ?_; rintro e w6 ⟨rfl, hb6⟩
  have i6 := i5.call hb6
  go_wp2_with fail
  refine (of_any _ _).mono ?_; rintro e w7 ⟨rfl, hb7⟩
  have i7 := i6.call hb7
  go_wp2_with fail
  go_ret
  exact ⟨rfl, (i7.alloc _).2⟩
set_option maxHeartbeats 2000000 in
theorem back_y_a (y m d n : Int) (w : World) (hT : Tab w) (hk : Cal.okD y m d = true) (h0 : -719162 ≤ n) (h1 : n + 1 ≤ 2932896) (hd : Cal.dayD n < Cal.mlen (Cal.dayY n) (Cal.dayM n)) :
    Calls Tryd.prog 4 #[.int .i64 n, dateV y m d] w fun e w' => e = .returned (.bool true) ∧ Below w.heap.size w w' := by
  have i0 := Inv.start hT
  obtain ⟨k1, k2, k3⟩ := num_on hk
  obtain ⟨p1, p2, p3⟩ := Cal.day_of hk
  obtain ⟨q1, q2, q3, q4⟩ := of_on4 k3
  rw [p1] at q1; rw [p2] at q2; rw [p3] at q3
  clear p1 p2 p3 k3 hk
  have hO : Cal.okN n = true := (Cal.okN_iff n).2 ⟨h0, by omega⟩
  obtain ⟨o1, o2, o3, o4⟩ := of_on4 hO
  have hO1 : Cal.okN (n + 1) = true := (Cal.okN_iff _).2 ⟨by omega, by omega⟩
  obtain ⟨t1, t2, t3, t4⟩ := of_on4 hO1
  have nx := next_day n h0 h1
  have dok := Cal.day_ok n h0 (by omega)
  obtain ⟨r1, r2⟩ : Cal.numV (Cal.dayY n) (Cal.dayM n) (Cal.dayD n) = n ∧ Cal.chkE (Cal.dayY n) (Cal.dayM n) (Cal.dayD n) = 0 := by
    have := num_on dok; rw [Cal.day_num] at this; exact ⟨this.1, this.2.1⟩
  rw [Cal.okD_iff] at dok
  obtain ⟨a1, a2, a3, a4, a5, a6⟩ := dok
  have mb := (Cal.mlen_bd (Cal.dayY n) (Cal.dayM n)).2
  obtain ⟨l1, l2⟩ := len_of ((Cal.okYM_iff (Cal.dayY n) (Cal.dayM n)).2 ⟨a1, a2, a3, a4⟩)
  have wn := wday_next n
  have wb := wday_bd n
  have NX := nx.1 hd
  obtain ⟨x1, x2, x3⟩ := NX
  rw [x1] at t1; rw [x2] at t2; rw [x3] at t3
  clear x1 x2 x3 nx hO hO1
  generalize Cal.dayY n = Y at *
  generalize Cal.dayM n = M at *
  generalize Cal.dayD n = D at *
  go_enter Tryd.func4, Tryd.ntmps4
  go_wp2_with fail
  refine (lives_any _ (i0.alloc _).1).mono ?_; rintro e w1 ⟨rfl, hb1⟩
  obtain ⟨hc1, hf1⟩ := bcell hb1
  have i1 := (i0.alloc _).call hb1
  have hz1 : w.heap.size < w1.heap.size := by have := hb1.size; simp at this; omega
  go_wp2_with fail
  refine (days_any _ _ _ _ i1.1).mono ?_; rintro e w2 ⟨rfl, hb2⟩
  obtain ⟨hc2, hf2⟩ := bcell hb2
  have i2 := i1.call hb2
  have hz2 : w.heap.size < w2.heap.size := by have := hb2.size; omega
  go_wp2_with fail
  refine (of_any _ _).mono ?_; rintro e w3 ⟨rfl, hb3⟩
  obtain ⟨hc3, hf3⟩ := bcell hb3
  have i3 := (i2.call hb3).alloc (.cells #[.int .i64 y, .int .i64 m, .int .i64 d] 23)
  have hz3 : w.heap.size < w3.heap.size := by have := hb3.size; omega
  go_wp2_with fail
  refine (of_any _ _).mono ?_; rintro e w4 ⟨rfl, hb4⟩
  have i4 := i3.call hb4
  clear hc1 hc2 hf1 hf2 hz1 hz2 hb1 hb2 i0 i1 i2 i3 hc3 hf3 hz3
  go_wp2_with fail
  refine (days_any _ _ _ _ (i4.alloc _).1).mono ?_; rintro e w5 ⟨rfl, hb5⟩
  obtain ⟨hc5, hf5⟩ := bcell hb5
  have i5 := (i4.alloc _).call hb5
  have hz5 : w4.heap.size < w5.heap.size := by have := hb5.size; simp at this; omega
  go_wp2_with fail
  refine (chk_any _ _ _ _ i5.1).mono ?_; rintro e w6 ⟨rfl, hb6⟩
  obtain ⟨hc6, hf6⟩ := bcell hb6
  have i6 := i5.call hb6
  have hz6 : w4.heap.size < w6.heap.size := by have := hb6.size; omega
  go_wp2_with fail
  refine (of_any _ _).mono ?_; rintro e w7 ⟨rfl, hb7⟩
  obtain ⟨hc7, hf7⟩ := bcell hb7
  have i7 := (i6.call hb7)
  have hz7 : w4.heap.size < w7.heap.size := by have := hb7.size; omega
  go_wp2_with fail
  refine (len_any _ _ _ (i7.alloc _).1).mono ?_; rintro e w8 ⟨rfl, rfl⟩
  go_wp2_with fail
  refine (wd_any _ _).mono ?_; rintro e w8 ⟨rfl, rfl⟩
  go_wp2_with fail
  refine (wd_any _ _).mono ?_; rintro e w8 ⟨rfl, rfl⟩
  go_wp2_with fail
  go_ret
  exact ⟨rfl, ((i7.alloc _).alloc _).2⟩
set_option maxHeartbeats 2000000 in
theorem back_y_b (y m d n : Int) (w : World) (hT : Tab w) (hk : Cal.okD y m d = true) (h0 : -719162 ≤ n) (h1 : n + 1 ≤ 2932896) (hd : ¬ Cal.dayD n < Cal.mlen (Cal.dayY n) (Cal.dayM n)) (hm : Cal.dayM n < 12) :
    Calls Tryd.prog 4 #[.int .i64 n, dateV y m d] w fun e w' => e = .returned (.bool true) ∧ Below w.heap.size w w' := by
  have i0 := Inv.start hT
  obtain ⟨k1, k2, k3⟩ := num_on hk
  obtain ⟨p1, p2, p3⟩ := Cal.day_of hk
  obtain ⟨q1, q2, q3, q4⟩ := of_on4 k3
  rw [p1] at q1; rw [p2] at q2; rw [p3] at q3
  clear p1 p2 p3 k3 hk
  have hO : Cal.okN n = true := (Cal.okN_iff n).2 ⟨h0, by omega⟩
  obtain ⟨o1, o2, o3, o4⟩ := of_on4 hO
  have hO1 : Cal.okN (n + 1) = true := (Cal.okN_iff _).2 ⟨by omega, by omega⟩
  obtain ⟨t1, t2, t3, t4⟩ := of_on4 hO1
  have nx := next_day n h0 h1
  have dok := Cal.day_ok n h0 (by omega)
  obtain ⟨r1, r2⟩ : Cal.numV (Cal.dayY n) (Cal.dayM n) (Cal.dayD n) = n ∧ Cal.chkE (Cal.dayY n) (Cal.dayM n) (Cal.dayD n) = 0 := by
    have := num_on dok; rw [Cal.day_num] at this; exact ⟨this.1, this.2.1⟩
  rw [Cal.okD_iff] at dok
  obtain ⟨a1, a2, a3, a4, a5, a6⟩ := dok
  have mb := (Cal.mlen_bd (Cal.dayY n) (Cal.dayM n)).2
  obtain ⟨l1, l2⟩ := len_of ((Cal.okYM_iff (Cal.dayY n) (Cal.dayM n)).2 ⟨a1, a2, a3, a4⟩)
  have wn := wday_next n
  have wb := wday_bd n
  have NX := nx.2.1 hd hm
  obtain ⟨x1, x2, x3⟩ := NX
  rw [x1] at t1; rw [x2] at t2; rw [x3] at t3
  clear x1 x2 x3 nx hO hO1
  generalize Cal.dayY n = Y at *
  generalize Cal.dayM n = M at *
  generalize Cal.dayD n = D at *
  go_enter Tryd.func4, Tryd.ntmps4
  go_wp2_with fail
  refine (lives_any _ (i0.alloc _).1).mono ?_; rintro e w1 ⟨rfl, hb1⟩
  obtain ⟨hc1, hf1⟩ := bcell hb1
  have i1 := (i0.alloc _).call hb1
  have hz1 : w.heap.size < w1.heap.size := by have := hb1.size; simp at this; omega
  go_wp2_with fail
  refine (days_any _ _ _ _ i1.1).mono ?_; rintro e w2 ⟨rfl, hb2⟩
  obtain ⟨hc2, hf2⟩ := bcell hb2
  have i2 := i1.call hb2
  have hz2 : w.heap.size < w2.heap.size := by have := hb2.size; omega
  go_wp2_with fail
  refine (of_any _ _).mono ?_; rintro e w3 ⟨rfl, hb3⟩
  obtain ⟨hc3, hf3⟩ := bcell hb3
  have i3 := (i2.call hb3).alloc (.cells #[.int .i64 y, .int .i64 m, .int .i64 d] 23)
  have hz3 : w.heap.size < w3.heap.size := by have := hb3.size; omega
  go_wp2_with fail
  refine (of_any _ _).mono ?_; rintro e w4 ⟨rfl, hb4⟩
  have i4 := i3.call hb4
  clear hc1 hc2 hf1 hf2 hz1 hz2 hb1 hb2 i0 i1 i2 i3 hc3 hf3 hz3
  go_wp2_with fail
  refine (days_any _ _ _ _ (i4.alloc _).1).mono ?_; rintro e w5 ⟨rfl, hb5⟩
  obtain ⟨hc5, hf5⟩ := bcell hb5
  have i5 := (i4.alloc _).call hb5
  have hz5 : w4.heap.size < w5.heap.size := by have := hb5.size; simp at this; omega
  go_wp2_with fail
  refine (chk_any _ _ _ _ i5.1).mono ?_; rintro e w6 ⟨rfl, hb6⟩
  obtain ⟨hc6, hf6⟩ := bcell hb6
  have i6 := i5.call hb6
  have hz6 : w4.heap.size < w6.heap.size := by have := hb6.size; omega
  go_wp2_with fail
  refine (of_any _ _).mono ?_; rintro e w7 ⟨rfl, hb7⟩
  obtain ⟨hc7, hf7⟩ := bcell hb7
  have i7 := (i6.call hb7)
  have hz7 : w4.heap.size < w7.heap.size := by have := hb7.size; omega
  go_wp2_with fail
  refine (len_any _ _ _ (i7.alloc _).1).mono ?_; rintro e w8 ⟨rfl, rfl⟩
  go_wp2_with fail
  refine (wd_any _ _).mono ?_; rintro e w8 ⟨rfl, rfl⟩
  go_wp2_with fail
  refine (wd_any _ _).mono ?_; rintro e w8 ⟨rfl, rfl⟩
  go_wp2_with fail
  go_ret
  exact ⟨rfl, ((i7.alloc _).alloc _).2⟩
set_option maxHeartbeats 2000000 in
theorem back_y_c (y m d n : Int) (w : World) (hT : Tab w) (hk : Cal.okD y m d = true) (h0 : -719162 ≤ n) (h1 : n + 1 ≤ 2932896) (hd : ¬ Cal.dayD n < Cal.mlen (Cal.dayY n) (Cal.dayM n)) (hm : ¬ Cal.dayM n < 12) :
    Calls Tryd.prog 4 #[.int .i64 n, dateV y m d] w fun e w' => e = .returned (.bool true) ∧ Below w.heap.size w w' := by
  have i0 := Inv.start hT
  obtain ⟨k1, k2, k3⟩ := num_on hk
  obtain ⟨p1, p2, p3⟩ := Cal.day_of hk
  obtain ⟨q1, q2, q3, q4⟩ := of_on4 k3
  rw [p1] at q1; rw [p2] at q2; rw [p3] at q3
  clear p1 p2 p3 k3 hk
  have hO : Cal.okN n = true := (Cal.okN_iff n).2 ⟨h0, by omega⟩
  obtain ⟨o1, o2, o3, o4⟩ := of_on4 hO
  have hO1 : Cal.okN (n + 1) = true := (Cal.okN_iff _).2 ⟨by omega, by omega⟩
  obtain ⟨t1, t2, t3, t4⟩ := of_on4 hO1
  have nx := next_day n h0 h1
  have dok := Cal.day_ok n h0 (by omega)
  obtain ⟨r1, r2⟩ : Cal.numV (Cal.dayY n) (Cal.dayM n) (Cal.dayD n) = n ∧ Cal.chkE (Cal.dayY n) (Cal.dayM n) (Cal.dayD n) = 0 := by
    have := num_on dok; rw [Cal.day_num] at this; exact ⟨this.1, this.2.1⟩
  rw [Cal.okD_iff] at dok
  obtain ⟨a1, a2, a3, a4, a5, a6⟩ := dok
  have mb := (Cal.mlen_bd (Cal.dayY n) (Cal.dayM n)).2
  obtain ⟨l1, l2⟩ := len_of ((Cal.okYM_iff (Cal.dayY n) (Cal.dayM n)).2 ⟨a1, a2, a3, a4⟩)
  have wn := wday_next n
  have wb := wday_bd n
  have NX := nx.2.2 hd hm
  obtain ⟨x1, x2, x3⟩ := NX
  rw [x1] at t1; rw [x2] at t2; rw [x3] at t3
  clear x1 x2 x3 nx hO hO1
  have e12 : Cal.dayM n = 12 := by omega
  clear hm
  generalize Cal.dayY n = Y at *
  generalize Cal.dayM n = M at *
  generalize Cal.dayD n = D at *
  subst e12
  go_enter Tryd.func4, Tryd.ntmps4
  go_wp2_with fail
  refine (lives_any _ (i0.alloc _).1).mono ?_; rintro e w1 ⟨rfl, hb1⟩
  obtain ⟨hc1, hf1⟩ := bcell hb1
  have i1 := (i0.alloc _).call hb1
  have hz1 : w.heap.size < w1.heap.size := by have := hb1.size; simp at this; omega
  go_wp2_with fail
  refine (days_any _ _ _ _ i1.1).mono ?_; rintro e w2 ⟨rfl, hb2⟩
  obtain ⟨hc2, hf2⟩ := bcell hb2
  have i2 := i1.call hb2
  have hz2 : w.heap.size < w2.heap.size := by have := hb2.size; omega
  go_wp2_with fail
  refine (of_any _ _).mono ?_; rintro e w3 ⟨rfl, hb3⟩
  obtain ⟨hc3, hf3⟩ := bcell hb3
  have i3 := (i2.call hb3).alloc (.cells #[.int .i64 y, .int .i64 m, .int .i64 d] 23)
  have hz3 : w.heap.size < w3.heap.size := by have := hb3.size; omega
  go_wp2_with fail
  refine (of_any _ _).mono ?_; rintro e w4 ⟨rfl, hb4⟩
  have i4 := i3.call hb4
  clear hc1 hc2 hf1 hf2 hz1 hz2 hb1 hb2 i0 i1 i2 i3 hc3 hf3 hz3
  go_wp2_with fail
  refine (days_any _ _ _ _ (i4.alloc _).1).mono ?_; rintro e w5 ⟨rfl, hb5⟩
  obtain ⟨hc5, hf5⟩ := bcell hb5
  have i5 := (i4.alloc _).call hb5
  have hz5 : w4.heap.size < w5.heap.size := by have := hb5.size; simp at this; omega
  go_wp2_with fail
  refine (chk_any _ _ _ _ i5.1).mono ?_; rintro e w6 ⟨rfl, hb6⟩
  obtain ⟨hc6, hf6⟩ := bcell hb6
  have i6 := i5.call hb6
  have hz6 : w4.heap.size < w6.heap.size := by have := hb6.size; omega
  go_wp2_with fail
  refine (of_any _ _).mono ?_; rintro e w7 ⟨rfl, hb7⟩
  obtain ⟨hc7, hf7⟩ := bcell hb7
  have i7 := (i6.call hb7)
  have hz7 : w4.heap.size < w7.heap.size := by have := hb7.size; omega
  go_wp2_with fail
  refine (len_any _ _ _ (i7.alloc _).1).mono ?_; rintro e w8 ⟨rfl, rfl⟩
  go_wp2_with fail
  refine (wd_any _ _).mono ?_; rintro e w8 ⟨rfl, rfl⟩
  go_wp2_with fail
  refine (wd_any _ _).mono ?_; rintro e w8 ⟨rfl, rfl⟩
  go_wp2_with fail
  go_ret
  exact ⟨rfl, ((i7.alloc _).alloc _).2⟩
set_option maxHeartbeats 2000000 in
theorem back_n_off (y m d n : Int) (w : World) (hT : Tab w) (hk : ¬ Cal.okD y m d = true) (hn : Cal.okN n = false) :
    Calls Tryd.prog 4 #[.int .i64 n, dateV y m d] w fun e w' => e = .returned (.bool true) ∧ Below w.heap.size w w' := by
  have i0 := Inv.start hT
  obtain ⟨k1, k2⟩ := num_off hk
  clear hk
  obtain ⟨o1, o2, o3, o4⟩ := of_off4 hn
  have hn' : ¬ (-719162 ≤ n ∧ n ≤ 2932896) := fun h => by rw [(Cal.okN_iff n).2 h] at hn; cases hn
  have hh : n < -719162 ∨ (-719162 ≤ n ∧ 2932896 < n) := by omega
  clear hn hn'
  rcases hh with h1 | ⟨h1, h2⟩
  · go_enter Tryd.func4, Tryd.ntmps4
    go_wp2_with fail
    refine (lives_any _ (i0.alloc _).1).mono ?_; rintro e w1 ⟨rfl, hb1⟩
    obtain ⟨hc1, hf1⟩ := bcell hb1
    have i1 := (i0.alloc _).call hb1
    have hz1 : w.heap.size < w1.heap.size := by have := hb1.size; simp at this; omega
    go_wp2_with fail
    refine (days_any _ _ _ _ i1.1).mono ?_; rintro e w2 ⟨rfl, hb2⟩
    obtain ⟨hc2, hf2⟩ := bcell hb2
    have i2 := i1.call hb2
    have hz2 : w.heap.size < w2.heap.size := by have := hb2.size; omega
    go_wp2_with fail
    have i3 := i2
    refine (of_any _ _).mono ?_; rintro e w4 ⟨rfl, hb4⟩
    have i4 := i3.call hb4
    clear hc1 hc2 hf1 hf2 hz1 hz2 hb1 hb2 i0 i1 i2 i3
    go_wp2_with fail
    go_ret
    exact ⟨rfl, (i4.alloc _).2⟩
  · go_enter Tryd.func4, Tryd.ntmps4
    go_wp2_with fail
    refine (lives_any _ (i0.alloc _).1).mono ?_; rintro e w1 ⟨rfl, hb1⟩
    obtain ⟨hc1, hf1⟩ := bcell hb1
    have i1 := (i0.alloc _).call hb1
    have hz1 : w.heap.size < w1.heap.size := by have := hb1.size; simp at this; omega
    go_wp2_with fail
    refine (days_any _ _ _ _ i1.1).mono ?_; rintro e w2 ⟨rfl, hb2⟩
    obtain ⟨hc2, hf2⟩ := bcell hb2
    have i2 := i1.call hb2
    have hz2 : w.heap.size < w2.heap.size := by have := hb2.size; omega
    go_wp2_with fail
    have i3 := i2
    refine (of_any _ _).mono ?_; rintro e w4 ⟨rfl, hb4⟩
    have i4 := i3.call hb4
    clear hc1 hc2 hf1 hf2 hz1 hz2 hb1 hb2 i0 i1 i2 i3
    go_wp2_with fail
    go_ret
    exact ⟨rfl, (i4.alloc _).2⟩
set_option maxHeartbeats 2000000 in
theorem back_n_last (y m d n : Int) (w : World) (hT : Tab w) (hk : ¬ Cal.okD y m d = true) (hn : n = 2932896) :
    Calls Tryd.prog 4 #[.int .i64 n, dateV y m d] w fun e w' => e = .returned (.bool true) ∧ Below w.heap.size w w' := by
  have i0 := Inv.start hT
  obtain ⟨k1, k2⟩ := num_off hk
  clear hk
  subst hn
  have hO : Cal.okN 2932896 = true := by decide
  obtain ⟨o1, o2, o3, o4⟩ := of_on4 hO
  obtain ⟨r1, r2⟩ : Cal.numV (Cal.dayY 2932896) (Cal.dayM 2932896) (Cal.dayD 2932896) = 2932896 ∧ Cal.chkE (Cal.dayY 2932896) (Cal.dayM 2932896) (Cal.dayD 2932896) = 0 := by
    have := num_on (Cal.day_ok 2932896 (by omega) (by omega)); rw [Cal.day_num] at this; exact ⟨this.1, this.2.1⟩
  have l4 : Cal.ofE 2932897 = 1 := by decide
  clear hO
  go_enter Tryd.func4, Tryd.ntmps4
  go_wp2_with fail
  refine (lives_any _ (i0.alloc _).1).mono ?_; rintro e w1 ⟨rfl, hb1⟩
  obtain ⟨hc1, hf1⟩ := bcell hb1
  have i1 := (i0.alloc _).call hb1
  have hz1 : w.heap.size < w1.heap.size := by have := hb1.size; simp at this; omega
  go_wp2_with fail
  refine (days_any _ _ _ _ i1.1).mono ?_; rintro e w2 ⟨rfl, hb2⟩
  obtain ⟨hc2, hf2⟩ := bcell hb2
  have i2 := i1.call hb2
  have hz2 : w.heap.size < w2.heap.size := by have := hb2.size; omega
  go_wp2_with fail
  have i3 := i2
  refine (of_any _ _).mono ?_; rintro e w4 ⟨rfl, hb4⟩
  have i4 := i3.call hb4
  clear hc1 hc2 hf1 hf2 hz1 hz2 hb1 hb2 i0 i1 i2 i3
  go_wp2_with fail
  refine (days_any _ _ _ _ (i4.alloc _).1).mono ?_; rintro e w5 ⟨rfl, hb5⟩
  obtain ⟨hc5, hf5⟩ := bcell hb5
  have i5 := (i4.alloc _).call hb5
  have hz5 : w4.heap.size < w5.heap.size := by have := hb5.size; simp at this; omega
  go_wp2_with fail
  refine (chk_any _ _ _ _ i5.1).mono ?_; rintro e w6 ⟨rfl, hb6⟩
  have i6 := i5.call hb6
  go_wp2_with fail
  refine (of_any _ _).mono ?_; rintro e w7 ⟨rfl, hb7⟩
  have i7 := i6.call hb7
  go_wp2_with fail
  go_ret
  exact ⟨rfl, (i7.alloc _).2⟩
set_option maxHeartbeats 2000000 in
theorem back_n_a (y m d n : Int) (w : World) (hT : Tab w) (hk : ¬ Cal.okD y m d = true) (h0 : -719162 ≤ n) (h1 : n + 1 ≤ 2932896) (hd : Cal.dayD n < Cal.mlen (Cal.dayY n) (Cal.dayM n)) :
    Calls Tryd.prog 4 #[.int .i64 n, dateV y m d] w fun e w' => e = .returned (.bool true) ∧ Below w.heap.size w w' := by
  have i0 := Inv.start hT
  obtain ⟨k1, k2⟩ := num_off hk
  clear hk
  have hO : Cal.okN n = true := (Cal.okN_iff n).2 ⟨h0, by omega⟩
  obtain ⟨o1, o2, o3, o4⟩ := of_on4 hO
  have hO1 : Cal.okN (n + 1) = true := (Cal.okN_iff _).2 ⟨by omega, by omega⟩
  obtain ⟨t1, t2, t3, t4⟩ := of_on4 hO1
  have nx := next_day n h0 h1
  have dok := Cal.day_ok n h0 (by omega)
  obtain ⟨r1, r2⟩ : Cal.numV (Cal.dayY n) (Cal.dayM n) (Cal.dayD n) = n ∧ Cal.chkE (Cal.dayY n) (Cal.dayM n) (Cal.dayD n) = 0 := by
    have := num_on dok; rw [Cal.day_num] at this; exact ⟨this.1, this.2.1⟩
  rw [Cal.okD_iff] at dok
  obtain ⟨a1, a2, a3, a4, a5, a6⟩ := dok
  have mb := (Cal.mlen_bd (Cal.dayY n) (Cal.dayM n)).2
  obtain ⟨l1, l2⟩ := len_of ((Cal.okYM_iff (Cal.dayY n) (Cal.dayM n)).2 ⟨a1, a2, a3, a4⟩)
  have wn := wday_next n
  have wb := wday_bd n
  have NX := nx.1 hd
  obtain ⟨x1, x2, x3⟩ := NX
  rw [x1] at t1; rw [x2] at t2; rw [x3] at t3
  clear x1 x2 x3 nx hO hO1
  generalize Cal.dayY n = Y at *
  generalize Cal.dayM n = M at *
  generalize Cal.dayD n = D at *
  go_enter Tryd.func4, Tryd.ntmps4
  go_wp2_with fail
  refine (lives_any _ (i0.alloc _).1).mono ?_; rintro e w1 ⟨rfl, hb1⟩
  obtain ⟨hc1, hf1⟩ := bcell hb1
  have i1 := (i0.alloc _).call hb1
  have hz1 : w.heap.size < w1.heap.size := by have := hb1.size; simp at this; omega
  go_wp2_with fail
  refine (days_any _ _ _ _ i1.1).mono ?_; rintro e w2 ⟨rfl, hb2⟩
  obtain ⟨hc2, hf2⟩ := bcell hb2
  have i2 := i1.call hb2
  have hz2 : w.heap.size < w2.heap.size := by have := hb2.size; omega
  go_wp2_with fail
  have i3 := i2
  refine (of_any _ _).mono ?_; rintro e w4 ⟨rfl, hb4⟩
  have i4 := i3.call hb4
  clear hc1 hc2 hf1 hf2 hz1 hz2 hb1 hb2 i0 i1 i2 i3
  go_wp2_with fail
  refine (days_any _ _ _ _ (i4.alloc _).1).mono ?_; rintro e w5 ⟨rfl, hb5⟩
  obtain ⟨hc5, hf5⟩ := bcell hb5
  have i5 := (i4.alloc _).call hb5
  have hz5 : w4.heap.size < w5.heap.size := by have := hb5.size; simp at this; omega
  go_wp2_with fail
  refine (chk_any _ _ _ _ i5.1).mono ?_; rintro e w6 ⟨rfl, hb6⟩
  obtain ⟨hc6, hf6⟩ := bcell hb6
  have i6 := i5.call hb6
  have hz6 : w4.heap.size < w6.heap.size := by have := hb6.size; omega
  go_wp2_with fail
  refine (of_any _ _).mono ?_; rintro e w7 ⟨rfl, hb7⟩
  obtain ⟨hc7, hf7⟩ := bcell hb7
  have i7 := (i6.call hb7)
  have hz7 : w4.heap.size < w7.heap.size := by have := hb7.size; omega
  go_wp2_with fail
  refine (len_any _ _ _ (i7.alloc _).1).mono ?_; rintro e w8 ⟨rfl, rfl⟩
  go_wp2_with fail
  refine (wd_any _ _).mono ?_; rintro e w8 ⟨rfl, rfl⟩
  go_wp2_with fail
  refine (wd_any _ _).mono ?_; rintro e w8 ⟨rfl, rfl⟩
  go_wp2_with fail
  go_ret
  exact ⟨rfl, ((i7.alloc _).alloc _).2⟩
set_option maxHeartbeats 2000000 in
theorem back_n_b (y m d n : Int) (w : World) (hT : Tab w) (hk : ¬ Cal.okD y m d = true) (h0 : -719162 ≤ n) (h1 : n + 1 ≤ 2932896) (hd : ¬ Cal.dayD n < Cal.mlen (Cal.dayY n) (Cal.dayM n)) (hm : Cal.dayM n < 12) :
    Calls Tryd.prog 4 #[.int .i64 n, dateV y m d] w fun e w' => e = .returned (.bool true) ∧ Below w.heap.size w w' := by
  have i0 := Inv.start hT
  obtain ⟨k1, k2⟩ := num_off hk
  clear hk
  have hO : Cal.okN n = true := (Cal.okN_iff n).2 ⟨h0, by omega⟩
  obtain ⟨o1, o2, o3, o4⟩ := of_on4 hO
  have hO1 : Cal.okN (n + 1) = true := (Cal.okN_iff _).2 ⟨by omega, by omega⟩
  obtain ⟨t1, t2, t3, t4⟩ := of_on4 hO1
  have nx := next_day n h0 h1
  have dok := Cal.day_ok n h0 (by omega)
  obtain ⟨r1, r2⟩ : Cal.numV (Cal.dayY n) (Cal.dayM n) (Cal.dayD n) = n ∧ Cal.chkE (Cal.dayY n) (Cal.dayM n) (Cal.dayD n) = 0 := by
    have := num_on dok; rw [Cal.day_num] at this; exact ⟨this.1, this.2.1⟩
  rw [Cal.okD_iff] at dok
  obtain ⟨a1, a2, a3, a4, a5, a6⟩ := dok
  have mb := (Cal.mlen_bd (Cal.dayY n) (Cal.dayM n)).2
  obtain ⟨l1, l2⟩ := len_of ((Cal.okYM_iff (Cal.dayY n) (Cal.dayM n)).2 ⟨a1, a2, a3, a4⟩)
  have wn := wday_next n
  have wb := wday_bd n
  have NX := nx.2.1 hd hm
  obtain ⟨x1, x2, x3⟩ := NX
  rw [x1] at t1; rw [x2] at t2; rw [x3] at t3
  clear x1 x2 x3 nx hO hO1
  generalize Cal.dayY n = Y at *
  generalize Cal.dayM n = M at *
  generalize Cal.dayD n = D at *
  go_enter Tryd.func4, Tryd.ntmps4
  go_wp2_with fail
  refine (lives_any _ (i0.alloc _).1).mono ?_; rintro e w1 ⟨rfl, hb1⟩
  obtain ⟨hc1, hf1⟩ := bcell hb1
  have i1 := (i0.alloc _).call hb1
  have hz1 : w.heap.size < w1.heap.size := by have := hb1.size; simp at this; omega
  go_wp2_with fail
  refine (days_any _ _ _ _ i1.1).mono ?_; rintro e w2 ⟨rfl, hb2⟩
  obtain ⟨hc2, hf2⟩ := bcell hb2
  have i2 := i1.call hb2
  have hz2 : w.heap.size < w2.heap.size := by have := hb2.size; omega
  go_wp2_with fail
  have i3 := i2
  refine (of_any _ _).mono ?_; rintro e w4 ⟨rfl, hb4⟩
  have i4 := i3.call hb4
  clear hc1 hc2 hf1 hf2 hz1 hz2 hb1 hb2 i0 i1 i2 i3
  go_wp2_with fail
  refine (days_any _ _ _ _ (i4.alloc _).1).mono ?_; rintro e w5 ⟨rfl, hb5⟩
  obtain ⟨hc5, hf5⟩ := bcell hb5
  have i5 := (i4.alloc _).call hb5
  have hz5 : w4.heap.size < w5.heap.size := by have := hb5.size; simp at this; omega
  go_wp2_with fail
  refine (chk_any _ _ _ _ i5.1).mono ?_; rintro e w6 ⟨rfl, hb6⟩
  obtain ⟨hc6, hf6⟩ := bcell hb6
  have i6 := i5.call hb6
  have hz6 : w4.heap.size < w6.heap.size := by have := hb6.size; omega
  go_wp2_with fail
  refine (of_any _ _).mono ?_; rintro e w7 ⟨rfl, hb7⟩
  obtain ⟨hc7, hf7⟩ := bcell hb7
  have i7 := (i6.call hb7)
  have hz7 : w4.heap.size < w7.heap.size := by have := hb7.size; omega
  go_wp2_with fail
  refine (len_any _ _ _ (i7.alloc _).1).mono ?_; rintro e w8 ⟨rfl, rfl⟩
  go_wp2_with fail
  refine (wd_any _ _).mono ?_; rintro e w8 ⟨rfl, rfl⟩
  go_wp2_with fail
  refine (wd_any _ _).mono ?_; rintro e w8 ⟨rfl, rfl⟩
  go_wp2_with fail
  go_ret
  exact ⟨rfl, ((i7.alloc _).alloc _).2⟩
set_option maxHeartbeats 2000000 in
theorem back_n_c (y m d n : Int) (w : World) (hT : Tab w) (hk : ¬ Cal.okD y m d = true) (h0 : -719162 ≤ n) (h1 : n + 1 ≤ 2932896) (hd : ¬ Cal.dayD n < Cal.mlen (Cal.dayY n) (Cal.dayM n)) (hm : ¬ Cal.dayM n < 12) :
    Calls Tryd.prog 4 #[.int .i64 n, dateV y m d] w fun e w' => e = .returned (.bool true) ∧ Below w.heap.size w w' := by
  have i0 := Inv.start hT
  obtain ⟨k1, k2⟩ := num_off hk
  clear hk
  have hO : Cal.okN n = true := (Cal.okN_iff n).2 ⟨h0, by omega⟩
  obtain ⟨o1, o2, o3, o4⟩ := of_on4 hO
  have hO1 : Cal.okN (n + 1) = true := (Cal.okN_iff _).2 ⟨by omega, by omega⟩
  obtain ⟨t1, t2, t3, t4⟩ := of_on4 hO1
  have nx := next_day n h0 h1
  have dok := Cal.day_ok n h0 (by omega)
  obtain ⟨r1, r2⟩ : Cal.numV (Cal.dayY n) (Cal.dayM n) (Cal.dayD n) = n ∧ Cal.chkE (Cal.dayY n) (Cal.dayM n) (Cal.dayD n) = 0 := by
    have := num_on dok; rw [Cal.day_num] at this; exact ⟨this.1, this.2.1⟩
  rw [Cal.okD_iff] at dok
  obtain ⟨a1, a2, a3, a4, a5, a6⟩ := dok
  have mb := (Cal.mlen_bd (Cal.dayY n) (Cal.dayM n)).2
  obtain ⟨l1, l2⟩ := len_of ((Cal.okYM_iff (Cal.dayY n) (Cal.dayM n)).2 ⟨a1, a2, a3, a4⟩)
  have wn := wday_next n
  have wb := wday_bd n
  have NX := nx.2.2 hd hm
  obtain ⟨x1, x2, x3⟩ := NX
  rw [x1] at t1; rw [x2] at t2; rw [x3] at t3
  clear x1 x2 x3 nx hO hO1
  have e12 : Cal.dayM n = 12 := by omega
  clear hm
  generalize Cal.dayY n = Y at *
  generalize Cal.dayM n = M at *
  generalize Cal.dayD n = D at *
  subst e12
  go_enter Tryd.func4, Tryd.ntmps4
  go_wp2_with fail
  refine (lives_any _ (i0.alloc _).1).mono ?_; rintro e w1 ⟨rfl, hb1⟩
  obtain ⟨hc1, hf1⟩ := bcell hb1
  have i1 := (i0.alloc _).call hb1
  have hz1 : w.heap.size < w1.heap.size := by have := hb1.size; simp at this; omega
  go_wp2_with fail
  refine (days_any _ _ _ _ i1.1).mono ?_; rintro e w2 ⟨rfl, hb2⟩
  obtain ⟨hc2, hf2⟩ := bcell hb2
  have i2 := i1.call hb2
  have hz2 : w.heap.size < w2.heap.size := by have := hb2.size; omega
  go_wp2_with fail
  have i3 := i2
  refine (of_any _ _).mono ?_; rintro e w4 ⟨rfl, hb4⟩
  have i4 := i3.call hb4
  clear hc1 hc2 hf1 hf2 hz1 hz2 hb1 hb2 i0 i1 i2 i3
  go_wp2_with fail
  refine (days_any _ _ _ _ (i4.alloc _).1).mono ?_; rintro e w5 ⟨rfl, hb5⟩
  obtain ⟨hc5, hf5⟩ := bcell hb5
  have i5 := (i4.alloc _).call hb5
  have hz5 : w4.heap.size < w5.heap.size := by have := hb5.size; simp at this; omega
  go_wp2_with fail
  refine (chk_any _ _ _ _ i5.1).mono ?_; rintro e w6 ⟨rfl, hb6⟩
  obtain ⟨hc6, hf6⟩ := bcell hb6
  have i6 := i5.call hb6
  have hz6 : w4.heap.size < w6.heap.size := by have := hb6.size; omega
  go_wp2_with fail
  refine (of_any _ _).mono ?_; rintro e w7 ⟨rfl, hb7⟩
  obtain ⟨hc7, hf7⟩ := bcell hb7
  have i7 := (i6.call hb7)
  have hz7 : w4.heap.size < w7.heap.size := by have := hb7.size; omega
  go_wp2_with fail
  refine (len_any _ _ _ (i7.alloc _).1).mono ?_; rintro e w8 ⟨rfl, rfl⟩
  go_wp2_with fail
  refine (wd_any _ _).mono ?_; rintro e w8 ⟨rfl, rfl⟩
  go_wp2_with fail
  refine (wd_any _ _).mono ?_; rintro e w8 ⟨rfl, rfl⟩
  go_wp2_with fail
  go_ret
  exact ⟨rfl, ((i7.alloc _).alloc _).2⟩
theorem back_any (y m d n : Int) (w : World) (hT : Tab w) :
    Calls Tryd.prog 4 #[.int .i64 n, dateV y m d] w fun e w' => e = .returned (.bool true) ∧ Below w.heap.size w w' := by
  by_cases hk : Cal.okD y m d = true
  · by_cases hn : Cal.okN n = true
    · have h := (Cal.okN_iff n).1 hn
      by_cases hl : n = 2932896
      · exact back_y_last y m d n w hT hk hl
      · by_cases hd : Cal.dayD n < Cal.mlen (Cal.dayY n) (Cal.dayM n)
        · exact back_y_a y m d n w hT hk h.1 (by omega) hd
        · by_cases hm : Cal.dayM n < 12
          · exact back_y_b y m d n w hT hk h.1 (by omega) hd hm
          · exact back_y_c y m d n w hT hk h.1 (by omega) hd hm
    · exact back_y_off y m d n w hT hk (by simpa using hn)
  · by_cases hn : Cal.okN n = true
    · have h := (Cal.okN_iff n).1 hn
      by_cases hl : n = 2932896
      · exact back_n_last y m d n w hT hk hl
      · by_cases hd : Cal.dayD n < Cal.mlen (Cal.dayY n) (Cal.dayM n)
        · exact back_n_a y m d n w hT hk h.1 (by omega) hd
        · by_cases hm : Cal.dayM n < 12
          · exact back_n_b y m d n w hT hk h.1 (by omega) hd hm
          · exact back_n_c y m d n w hT hk h.1 (by omega) hd hm
    · exact back_n_off y m d n w hT hk (by simpa using hn)
end Go.Proofs.YtmhchkhinjiebaaDoor.Civ
