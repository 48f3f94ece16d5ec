/-
  THE CALENDAR's FUNCTIONS, WALKED: each returns what the plain law says (the reference: Of).
-/
import Derived.Test.YtefcjccapekjdaaDoorCvR
namespace Go.Proofs.YtefcjccapekjdaaDoor.Civ
open Go.ChangeShapes Go.WideShapes Go.ChangeAt Go.RowKit
set_option linter.unusedVariables false
/-- the reference's search: the last year that does not begin behind it, then the month -/
theorem year_between (n : Int) (h : -719162 ≤ n ∧ n ≤ 2932896) : 1 ≤ Cal.dayY n ∧ Cal.dayY n ≤ 9999 ∧ Cal.first (Cal.dayY n) ≤ n ∧ n < Cal.first (Cal.dayY n + 1) := by
  have h1 := Cal.day_ok n h.1 h.2
  have h2 := Cal.num_bd _ _ _ h1
  rw [Cal.day_num] at h2
  rw [Cal.okD_iff] at h1
  exact ⟨h1.1, h1.2.1, h2.1, h2.2⟩
theorem year_ge {n a : Int} (h : -719162 ≤ n ∧ n ≤ 2932896) (ha : Cal.first a ≤ n) : a ≤ Cal.dayY n := by
  have := year_between n h
  rcases Int.lt_or_le (Cal.dayY n) a with g | g
  · have := Cal.first_mono (Cal.dayY n + 1) a (by omega); omega
  · exact g
theorem year_lt {n a : Int} (h : -719162 ≤ n ∧ n ≤ 2932896) (ha : n < Cal.first a) : Cal.dayY n < a := by
  have := year_between n h
  rcases Int.lt_or_le (Cal.dayY n) a with g | g
  · exact g
  · have := Cal.first_mono a (Cal.dayY n) g; omega
/-- the month's search ends at the date -/
theorem month_end {n a m : Int} (h : -719162 ≤ n ∧ n ≤ 2932896) (ha : a = Cal.dayY n) (h1 : 1 ≤ m) (h2 : m ≤ 12) (l0 : 0 ≤ n - Cal.first a - Cal.cum a m) (l1 : n - Cal.first a - Cal.cum a m < Cal.mlen a m) :
    Cal.dayM n = m ∧ Cal.dayD n = n - Cal.first a - Cal.cum a m + 1 := by
  have hy := year_between n h
  have hd := Cal.day_ok n h.1 h.2
  have ok : Cal.okD a m (n - Cal.first a - Cal.cum a m + 1) = true := (Cal.okD_iff _ _ _).2 (by omega)
  have hn : Cal.num a m (n - Cal.first a - Cal.cum a m + 1) = n := by unfold Cal.num; omega
  have := Cal.num_inj hd ok (by rw [Cal.day_num, hn])
  exact ⟨this.2.1, this.2.2⟩
set_option maxHeartbeats 1600000 in
theorem rof_any (n : Int) (w : World) :
    Calls Tryd.prog 130 #[.int .i64 n] w fun e w' => e = .returned (dateE (Cal.ofYV n) (Cal.ofMV n) (Cal.ofDV n) (Cal.ofE n)) ∧ Below w.heap.size w w' := by
  have n1 : Cal.firV 1 = -719162 := by decide
  have n2 : Cal.firV 10000 = 2932897 := by decide
  by_cases h : -719162 ≤ n ∧ n ≤ 2932896
  · rw [← of_on h]
    have hN := Lib.hid h
    obtain ⟨h1, h2⟩ := h
    obtain ⟨Y0, Y1, Y2, Y3⟩ := year_between n hN.out
    have YY2 := Lib.hid Y2; have YY3 := Lib.hid Y3
    clear Y2 Y3
    go_enter Tryd.func130, Tryd.ntmps130
    go_wp2_with (go_at_call 141; refine (rfir_any _ _).mono ?_; rintro e w' ⟨rfl, rfl⟩)
    clear n1 n2
    go_loop [8, 9] (fun a b => ∃ x y : Int, 1 ≤ x ∧ x ≤ Cal.dayY n ∧ Cal.dayY n ≤ y ∧ y ≤ 9999 ∧ a = .int .i64 x ∧ b = .int .i64 y) (fun a b => (intOf b - intOf a).toNat)
    case atStart => exact ⟨1, 9999, by omega, by omega, by omega, by omega, rfl, rfl⟩
    case round =>
      obtain ⟨x, y, x1, x2, y1, y2, rfl, rfl⟩ := hrel
      by_cases hlt : x < y
      · obtain ⟨m, hm⟩ : ∃ m, m = (x + y + 1) / 2 := ⟨_, rfl⟩
        have m1 : x < m ∧ m ≤ y := by omega
        have hf := fir_of (y := m) (by omega) (by omega)
        have hm' : (x + y + 1) / 2 = m := hm.symm
        clear hm
        by_cases hle : Cal.first m ≤ n
        · have := year_ge hN.out hle
          go_wp2_with (go_at_call 141; refine (rfir_any _ _).mono ?_; rintro e w' ⟨rfl, rfl⟩)
          go_round
          case rel => exact ⟨m, y, by omega, by omega, by omega, by omega, rfl, rfl⟩
          case measure => simp [intOf]; omega
        · have := year_lt hN.out (by omega : n < Cal.first m)
          go_wp2_with (go_at_call 141; refine (rfir_any _ _).mono ?_; rintro e w' ⟨rfl, rfl⟩)
          go_round
          case rel => exact ⟨x, m - 1, by omega, by omega, by omega, by omega, rfl, rfl⟩
          case measure => simp [intOf]; omega
      · have hx : x = Cal.dayY n := by omega
        have HX := Lib.hid hx
        have hf := fir_of (y := x) (by omega) (by omega)
        have q1 : Cal.first x ≤ n := by rw [hx]; exact YY2.out
        have q2 : n < Cal.first x + 366 := by
          have a := YY3.out
          rw [← hx, Cal.first_succ] at a
          split at a <;> omega
        have q3 : n < Cal.first (x + 1) := by rw [hx]; exact YY3.out
        have HQ := Lib.hid q3
        clear hx q3
        go_wp2_with (go_at_call 141; refine (rfir_any _ _).mono ?_; rintro e w' ⟨rfl, rfl⟩)
        clear hf
        obtain ⟨F, hF⟩ : ∃ F, F = Cal.first x := ⟨_, rfl⟩
        rw [← hF] at q1 q2 ⊢
        have HF := Lib.hid hF
        clear hF
        go_loop [15, 16] (fun l i => ∃ m : Int, 1 ≤ m ∧ m ≤ 12 ∧ i = .int .i64 m ∧ 0 ≤ n - F - Cal.cum x m ∧ l = .int .i64 (n - F - Cal.cum x m)) (fun _ i => (12 - intOf i).toNat)
        case atStart => exact ⟨1, by omega, by omega, rfl, by simp [Cal.cum]; omega, by simp [Cal.cum]⟩
        case round =>
          obtain ⟨m, m1, m2, rfl, l0, rfl⟩ := hrel
          have cb := Cal.cum_bd x m m1 (by omega)
          have mb := Cal.mlen_bd x m
          obtain ⟨hl1, hl2⟩ := len_of ((Cal.okYM_iff x m).2 ⟨x1, by omega, m1, m2⟩)
          by_cases hc : n - F - Cal.cum x m < Cal.mlen x m
          · have HE := Lib.hid (month_end hN.out HX.out m1 m2 (by rw [← HF.out]; exact l0) (by rw [← HF.out]; exact hc))
            go_wp2_with (go_at_call 124; refine (rlen_any _ _ _).mono ?_; rintro e w' ⟨rfl, rfl⟩)
            refine bodyPost_ret (v := dateE x m (n - F - Cal.cum x m + 1) 0) (by simp [results, Tryd.results130, go_sem]) rfl ⟨?_, (Below.refl _ _).alloc (Nat.le_refl _) _⟩
            rw [HE.out.1, HE.out.2, ← HF.out, ← HX.out]
          · have cs := Cal.cum_succ x m m1 m2
            have hm12 : m ≠ 12 := by
              intro e12
              subst e12
              have h13 : Cal.cum x 13 = Cal.cum x 12 + Cal.mlen x 12 := cs
              have hq := HQ.out
              rw [Cal.cum_13] at h13
              rw [Cal.first_succ, ← HF.out] at hq
              omega
            have CS := Lib.hid cs; clear cs
            go_wp2_with (go_at_call 124; refine (rlen_any _ _ _).mono ?_; rintro e w' ⟨rfl, rfl⟩)
            go_round
            case rel => exact ⟨m + 1, by omega, by omega, rfl, by rw [CS.out]; omega, by rw [CS.out]; exact congrArg (Value.int .i64) (by omega)⟩
            case measure => simp [intOf]; omega
  · rw [← of_off h]
    have hh : n < -719162 ∨ (-719162 ≤ n ∧ 2932897 ≤ n) := by omega
    clear h
    rcases hh with h1 | ⟨h1, h2⟩ <;> (
      go_enter Tryd.func130, Tryd.ntmps130
      go_wp2_with (go_at_call 141; refine (rfir_any _ _).mono ?_; rintro e w' ⟨rfl, rfl⟩)
      exact bodyPost_ret (v := dateE 0 0 0 1) (by simp [results, Tryd.results130, go_sem]) rfl ⟨rfl, (Below.refl _ _).alloc (Nat.le_refl _) _⟩)
end Go.Proofs.YtefcjccapekjdaaDoor.Civ
