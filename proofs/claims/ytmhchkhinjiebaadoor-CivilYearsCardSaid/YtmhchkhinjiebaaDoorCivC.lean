/-
  THE CALENDAR's FUNCTIONS OVER DATES, WALKED (2): the reference's Days, and both Of.
-/
import Derived.Test.YtmhchkhinjiebaaDoorCivB
import Derived.Deep.DeepCutAuto
namespace Go.Proofs.YtmhchkhinjiebaaDoor.Civ
open Go.ChangeShapes Go.WideShapes Go.ChangeAt Go.RowKit
set_option linter.unusedVariables false
set_option maxHeartbeats 800000 in
theorem rdays_any (y m d : Int) (w : World) :
    Calls Tryd.prog 7 #[dateV y m d] w fun e w' => e = .returned (.tuple #[.int .i64 (Cal.numV y m d), .int .i64 (Cal.chkE y m d)]) ∧ Below w.heap.size w w' := by
  have hb : Below w.heap.size w (w.alloc (.cells #[.int .i64 y, .int .i64 m, .int .i64 d] 23)) := (Below.refl _ _).alloc (Nat.le_refl _) _
  by_cases h : Cal.okD y m d = true
  · have hl : Cal.chkE y m d = 0 := by unfold Cal.chkE; rw [if_pos h]
    have hv : Cal.numV y m d = Cal.num y m d := by unfold Cal.numV; rw [if_pos h]
    have hn : Cal.num y m d = Cal.first y + Cal.cum y m + d - 1 := rfl
    rw [Cal.okD_iff] at h
    obtain ⟨h1, h2, h3, h4, h5, h6⟩ := h
    have h7 := (Cal.mlen_bd y m).2
    have hf : Cal.firV y = Cal.first y := by unfold Cal.firV; rw [if_pos ((Cal.okF_iff y).2 (by omega))]
    have hfb : -719162 ≤ Cal.first y ∧ Cal.first y ≤ 2932897 := by unfold Cal.first; omega
    have HN := Lib.hid (hv.trans hn); clear hn hv
    obtain ⟨hfb1, hfb2⟩ := hfb
    go_enter Tryd.func7, Tryd.ntmps7
    go_wp2_with (first
      | (go_at_call 18; refine (rchk_any _ _ _ _).mono ?_; rintro e w1 ⟨rfl, hb1⟩; obtain ⟨hc1, hf1⟩ := bcell hb1; have hbw := hb.trans (hb1.mono (by simp)))
      | (go_at_call 13; refine (rfir_any _ _).mono ?_; rintro e w' ⟨rfl, rfl⟩))
    clear hl hf
    go_loop [4, 6] (fun n i => ∃ k : Int, 1 ≤ k ∧ k ≤ m ∧ i = .int .i64 k ∧ n = .int .i64 (Cal.first y + Cal.cum y k)) (fun _ i => (12 - intOf i).toNat)
    case atStart => exact ⟨1, by omega, by omega, rfl, by simp [Cal.cum]⟩
    case round =>
      obtain ⟨k, hk1, hk2, rfl, rfl⟩ := hrel
      have cb := Cal.cum_bd y k hk1 (by omega)
      by_cases hlt : k < m
      · have cs := Cal.cum_succ y k hk1 (by omega)
        have CS := Lib.hid cs; clear cs
        have mb := Cal.mlen_bd y k
        obtain ⟨hl1, hl2⟩ := len_of ((Cal.okYM_iff y k).2 ⟨h1, h2, by omega, by omega⟩)
        go_wp2_with (go_at_call 11; refine (rlen_any _ _ _).mono ?_; rintro e w' ⟨rfl, rfl⟩)
        go_round
        case rel => exact ⟨k + 1, by omega, by omega, rfl, by rw [CS.out, Int.add_assoc]⟩
        case measure => simp [intOf]; omega
      · obtain rfl : k = m := by omega
        go_wp2
        go_ret2
        exact ⟨ret_two HN.out.symm (by unfold Cal.chkE; rw [if_pos ((Cal.okD_iff _ _ _).2 (by omega))]), hbw⟩
  · have hl : Cal.chkE y m d = 1 := by unfold Cal.chkE; rw [if_neg h]
    have hv : Cal.numV y m d = 0 := by unfold Cal.numV; rw [if_neg h]
    go_enter Tryd.func7, Tryd.ntmps7
    go_wp2_with (first
      | (go_at_call 18; refine (rchk_any _ _ _ _).mono ?_; rintro e w1 ⟨rfl, hb1⟩; obtain ⟨hc1, hf1⟩ := bcell hb1; have hbw := hb.trans (hb1.mono (by simp))))
    go_ret2
    exact ⟨ret_two hv.symm hl.symm, hbw⟩
abbrev dateE (y m d e : Int) : Value := .tuple #[dateV y m d, .int .i64 e]
theorem of_off {n : Int} (h : ¬ (-719162 ≤ n ∧ n ≤ 2932896)) : dateE 0 0 0 1 = dateE (Cal.ofYV n) (Cal.ofMV n) (Cal.ofDV n) (Cal.ofE n) := by
  unfold Cal.ofYV Cal.ofMV Cal.ofDV Cal.ofE
  rw [Cal.okN_no h]; rfl
theorem of_on {n : Int} (h : -719162 ≤ n ∧ n ≤ 2932896) : dateE (Cal.dayY n) (Cal.dayM n) (Cal.dayD n) 0 = dateE (Cal.ofYV n) (Cal.ofMV n) (Cal.ofDV n) (Cal.ofE n) := by
  unfold Cal.ofYV Cal.ofMV Cal.ofDV Cal.ofE
  rw [(Cal.okN_iff n).2 h]; rfl
set_option maxHeartbeats 800000 in
theorem of_any (n : Int) (w : World) :
    Calls Tryd.prog 8 #[.int .i64 n] w fun e w' => e = .returned (dateE (Cal.ofYV n) (Cal.ofMV n) (Cal.ofDV n) (Cal.ofE n)) ∧ Below w.heap.size w w' := by
  have n1 : Cal.num 1 1 1 = -719162 := by decide
  have n2 : Cal.num 10000 1 1 = 2932897 := by decide
  by_cases h : -719162 ≤ n ∧ n ≤ 2932896
  · rw [← of_on h]
    obtain ⟨h1, h2⟩ := h
    have e0 : (n + 719468) % 146097 = Cal.oR n := rfl
    have e1 : (n + 719468) / 146097 = Cal.oG n := rfl
    have hR := Cal.oR_bd n
    have hG : 0 ≤ Cal.oG n ∧ Cal.oG n ≤ 25 := by unfold Cal.oG; omega
    have e2 : (Cal.oR n - Cal.oR n / 1460 + Cal.oR n / 36524 - Cal.oR n / 146096) / 365 = Cal.oY n := rfl
    obtain ⟨y0, y1, hr, t0, t1, hl⟩ := Cal.oY_spec n
    have e3 : Cal.oR n - (365 * Cal.oY n + Cal.oY n / 4 - Cal.oY n / 100) = Cal.oT n := rfl
    have e4 : (5 * Cal.oT n + 2) / 153 = Cal.oM n := rfl
    have k0 := (Cal.month_lem (Cal.oT n) (Cal.oM n) t0 t1 rfl).1
    have k1 := (Cal.month_lem (Cal.oT n) (Cal.oM n) t0 t1 rfl).2.1
    clear hl hr
    obtain ⟨g0, g1⟩ := hG
    obtain ⟨r0, r1⟩ := hR
    have hge : 0 ≤ Cal.oR n - Cal.oR n / 1460 + Cal.oR n / 36524 - Cal.oR n / 146096 := by omega
    have EM := Lib.hid e4
    clear e4
    go_enter Tryd.func8, Tryd.ntmps8
    go_upto_region 7 with (go_at_call 21; refine (number_any _ _ _ _ (by omega) (by omega) (by omega) (by omega) (by omega) (by omega)).mono ?_; rintro e w' ⟨rfl, rfl⟩)
    go_cut [5, 6] (fun t y wx => t = .int .i64 (Cal.oT n) ∧ y = .int .i64 (Cal.oY n + Cal.oG n * 400) ∧ wx = w.alloc (.cells #[.int .i64 0, .int .i64 0, .int .i64 0] 23))
    case first => go_wp2_with fail; go_meet; exact ⟨rfl, rfl, rfl⟩
    case rest =>
      obtain ⟨rfl, rfl, rfl⟩ := hcut
      clear e0 e1 e2 e3 hge n1 n2 r0 r1 h1 h2
      obtain ⟨T, hT⟩ : ∃ T, T = Cal.oT n := ⟨_, rfl⟩
      have HM : Cal.oM n = (5 * T + 2) / 153 := by rw [hT]; exact EM.out.symm
      have HD : Cal.dayD n = T - (153 * Cal.oM n + 2) / 5 + 1 := by rw [hT]; rfl
      rw [← hT] at t0 t1 ⊢
      have HMM : Cal.dayM n = if Cal.oM n + 3 > 12 then Cal.oM n + 3 - 12 else Cal.oM n + 3 := rfl
      have HYY : Cal.dayY n = if Cal.oM n + 3 > 12 then Cal.oY n + Cal.oG n * 400 + 1 else Cal.oY n + Cal.oG n * 400 := rfl
      generalize Cal.oM n = M at *
      generalize Cal.oY n = Y at *
      generalize Cal.oG n = G at *
      clear EM hT
      by_cases hm : M + 3 > 12
      · rw [if_pos hm] at HMM HYY
        have X1 := Lib.hid HM; have X2 := Lib.hid HD; have X3 := Lib.hid HMM; have X4 := Lib.hid HYY
        have hM : (5 * T + 2) / 153 = M := HM.symm
        clear HM HD HMM HYY
        go_wp2
        exact bodyPost_ret (v := dateE (Y + G * 400 + 1) (M + 3 - 12) (T - (153 * M + 2) / 5 + 1) 0) (by simp [results, Tryd.results8, go_sem]) rfl ⟨by rw [X2.out, X3.out, X4.out], (Below.refl _ _).alloc (Nat.le_refl _) _⟩
      · rw [if_neg hm] at HMM HYY
        have X1 := Lib.hid HM; have X2 := Lib.hid HD; have X3 := Lib.hid HMM; have X4 := Lib.hid HYY
        have hM : (5 * T + 2) / 153 = M := HM.symm
        clear HM HD HMM HYY
        go_wp2
        exact bodyPost_ret (v := dateE (Y + G * 400) (M + 3) (T - (153 * M + 2) / 5 + 1) 0) (by simp [results, Tryd.results8, go_sem]) rfl ⟨by rw [X2.out, X3.out, X4.out], (Below.refl _ _).alloc (Nat.le_refl _) _⟩
  · rw [← of_off h]
    have hh : n < -719162 ∨ (-719162 ≤ n ∧ 2932897 ≤ n) := by omega
    clear h
    rcases hh with h1 | ⟨h1, h2⟩ <;> (
      go_enter Tryd.func8, Tryd.ntmps8
      go_wp2_with (go_at_call 21; refine (number_any _ _ _ _ (by omega) (by omega) (by omega) (by omega) (by omega) (by omega)).mono ?_; rintro e w' ⟨rfl, rfl⟩)
      exact bodyPost_ret (v := dateE 0 0 0 1) (by simp [results, Tryd.results8, go_sem]) rfl ⟨rfl, (Below.refl _ _).alloc (Nat.le_refl _) _⟩)
/-- the reference's search: the last year that does not begin behind it, then the month -/
theorem year_between (n : Int) (h : -719162 ≤ n ∧ n ≤ 2932896) : 1 ≤ Cal.dayY n ∧ Cal.dayY n ≤ 9999 ∧ Cal.first (Cal.dayY n) ≤ n ∧ n < Cal.first (Cal.dayY n + 1) := by
  have h1 := Cal.day_ok n h.1 h.2
  have h2 := Cal.num_bd _ _ _ h1
  rw [Cal.day_num] at h2
  rw [Cal.okD_iff] at h1
  exact ⟨h1.1, h1.2.1, h2.1, h2.2⟩
theorem year_ge {n a : Int} (h : -719162 ≤ n ∧ n ≤ 2932896) (ha : Cal.first a ≤ n) : a ≤ Cal.dayY n := by
  have := year_between n h
  rcases Int.lt_or_le (Cal.dayY n) a with g | g
  · have := Cal.first_mono (Cal.dayY n + 1) a (by omega); omega
  · exact g
theorem year_lt {n a : Int} (h : -719162 ≤ n ∧ n ≤ 2932896) (ha : n < Cal.first a) : Cal.dayY n < a := by
  have := year_between n h
  rcases Int.lt_or_le (Cal.dayY n) a with g | g
  · exact g
  · have := Cal.first_mono a (Cal.dayY n) g; omega
/-- the month's search ends at the date -/
theorem month_end {n a m : Int} (h : -719162 ≤ n ∧ n ≤ 2932896) (ha : a = Cal.dayY n) (h1 : 1 ≤ m) (h2 : m ≤ 12) (l0 : 0 ≤ n - Cal.first a - Cal.cum a m) (l1 : n - Cal.first a - Cal.cum a m < Cal.mlen a m) :
    Cal.dayM n = m ∧ Cal.dayD n = n - Cal.first a - Cal.cum a m + 1 := by
  have hy := year_between n h
  have hd := Cal.day_ok n h.1 h.2
  have ok : Cal.okD a m (n - Cal.first a - Cal.cum a m + 1) = true := (Cal.okD_iff _ _ _).2 (by omega)
  have hn : Cal.num a m (n - Cal.first a - Cal.cum a m + 1) = n := by unfold Cal.num; omega
  have := Cal.num_inj hd ok (by rw [Cal.day_num, hn])
  exact ⟨this.2.1, this.2.2⟩
theorem fir_of {y : Int} (h1 : 1 ≤ y) (h2 : y ≤ 10000) : Cal.firV y = Cal.first y := by unfold Cal.firV; rw [if_pos ((Cal.okF_iff y).2 ⟨h1, h2⟩)]
set_option maxHeartbeats 1600000 in
theorem rof_any (n : Int) (w : World) :
    Calls Tryd.prog 9 #[.int .i64 n] w fun e w' => e = .returned (dateE (Cal.ofYV n) (Cal.ofMV n) (Cal.ofDV n) (Cal.ofE n)) ∧ Below w.heap.size w w' := by
  have n1 : Cal.firV 1 = -719162 := by decide
  have n2 : Cal.firV 10000 = 2932897 := by decide
  by_cases h : -719162 ≤ n ∧ n ≤ 2932896
  · rw [← of_on h]
    have hN := Lib.hid h
    obtain ⟨h1, h2⟩ := h
    obtain ⟨Y0, Y1, Y2, Y3⟩ := year_between n hN.out
    have YY2 := Lib.hid Y2; have YY3 := Lib.hid Y3
    clear Y2 Y3
    go_enter Tryd.func9, Tryd.ntmps9
    go_wp2_with (go_at_call 13; refine (rfir_any _ _).mono ?_; rintro e w' ⟨rfl, rfl⟩)
    clear n1 n2
    go_loop [8, 9] (fun a b => ∃ x y : Int, 1 ≤ x ∧ x ≤ Cal.dayY n ∧ Cal.dayY n ≤ y ∧ y ≤ 9999 ∧ a = .int .i64 x ∧ b = .int .i64 y) (fun a b => (intOf b - intOf a).toNat)
    case atStart => exact ⟨1, 9999, by omega, by omega, by omega, by omega, rfl, rfl⟩
    case round =>
      obtain ⟨x, y, x1, x2, y1, y2, rfl, rfl⟩ := hrel
      by_cases hlt : x < y
      · obtain ⟨m, hm⟩ : ∃ m, m = (x + y + 1) / 2 := ⟨_, rfl⟩
        have m1 : x < m ∧ m ≤ y := by omega
        have hf := fir_of (y := m) (by omega) (by omega)
        have hm' : (x + y + 1) / 2 = m := hm.symm
        clear hm
        by_cases hle : Cal.first m ≤ n
        · have := year_ge hN.out hle
          go_wp2_with (go_at_call 13; refine (rfir_any _ _).mono ?_; rintro e w' ⟨rfl, rfl⟩)
          go_round
          case rel => exact ⟨m, y, by omega, by omega, by omega, by omega, rfl, rfl⟩
          case measure => simp [intOf]; omega
        · have := year_lt hN.out (by omega : n < Cal.first m)
          go_wp2_with (go_at_call 13; refine (rfir_any _ _).mono ?_; rintro e w' ⟨rfl, rfl⟩)
          go_round
          case rel => exact ⟨x, m - 1, by omega, by omega, by omega, by omega, rfl, rfl⟩
          case measure => simp [intOf]; omega
      · have hx : x = Cal.dayY n := by omega
        have HX := Lib.hid hx
        have hf := fir_of (y := x) (by omega) (by omega)
        have q1 : Cal.first x ≤ n := by rw [hx]; exact YY2.out
        have q2 : n < Cal.first x + 366 := by
          have a := YY3.out
          rw [← hx, Cal.first_succ] at a
          split at a <;> omega
        have q3 : n < Cal.first (x + 1) := by rw [hx]; exact YY3.out
        have HQ := Lib.hid q3
        clear hx q3
        go_wp2_with (go_at_call 13; refine (rfir_any _ _).mono ?_; rintro e w' ⟨rfl, rfl⟩)
        clear hf
        obtain ⟨F, hF⟩ : ∃ F, F = Cal.first x := ⟨_, rfl⟩
        rw [← hF] at q1 q2 ⊢
        have HF := Lib.hid hF
        clear hF
        go_loop [15, 16] (fun l i => ∃ m : Int, 1 ≤ m ∧ m ≤ 12 ∧ i = .int .i64 m ∧ 0 ≤ n - F - Cal.cum x m ∧ l = .int .i64 (n - F - Cal.cum x m)) (fun _ i => (12 - intOf i).toNat)
        case atStart => exact ⟨1, by omega, by omega, rfl, by simp [Cal.cum]; omega, by simp [Cal.cum]⟩
        case round =>
          obtain ⟨m, m1, m2, rfl, l0, rfl⟩ := hrel
          have cb := Cal.cum_bd x m m1 (by omega)
          have mb := Cal.mlen_bd x m
          obtain ⟨hl1, hl2⟩ := len_of ((Cal.okYM_iff x m).2 ⟨x1, by omega, m1, m2⟩)
          by_cases hc : n - F - Cal.cum x m < Cal.mlen x m
          · have HE := Lib.hid (month_end hN.out HX.out m1 m2 (by rw [← HF.out]; exact l0) (by rw [← HF.out]; exact hc))
            go_wp2_with (go_at_call 11; refine (rlen_any _ _ _).mono ?_; rintro e w' ⟨rfl, rfl⟩)
            refine bodyPost_ret (v := dateE x m (n - F - Cal.cum x m + 1) 0) (by simp [results, Tryd.results9, go_sem]) rfl ⟨?_, (Below.refl _ _).alloc (Nat.le_refl _) _⟩
            rw [HE.out.1, HE.out.2, ← HF.out, ← HX.out]
          · have cs := Cal.cum_succ x m m1 m2
            have hm12 : m ≠ 12 := by
              intro e12
              subst e12
              have h13 : Cal.cum x 13 = Cal.cum x 12 + Cal.mlen x 12 := cs
              have hq := HQ.out
              rw [Cal.cum_13] at h13
              rw [Cal.first_succ, ← HF.out] at hq
              omega
            have CS := Lib.hid cs; clear cs
            go_wp2_with (go_at_call 11; refine (rlen_any _ _ _).mono ?_; rintro e w' ⟨rfl, rfl⟩)
            go_round
            case rel => exact ⟨m + 1, by omega, by omega, rfl, by rw [CS.out]; omega, by rw [CS.out]; exact congrArg (Value.int .i64) (by omega)⟩
            case measure => simp [intOf]; omega
  · rw [← of_off h]
    have hh : n < -719162 ∨ (-719162 ≤ n ∧ 2932897 ≤ n) := by omega
    clear h
    rcases hh with h1 | ⟨h1, h2⟩ <;> (
      go_enter Tryd.func9, Tryd.ntmps9
      go_wp2_with (go_at_call 13; refine (rfir_any _ _).mono ?_; rintro e w' ⟨rfl, rfl⟩)
      exact bodyPost_ret (v := dateE 0 0 0 1) (by simp [results, Tryd.results9, go_sem]) rfl ⟨rfl, (Below.refl _ _).alloc (Nat.le_refl _) _⟩)
end Go.Proofs.YtmhchkhinjiebaaDoor.Civ
