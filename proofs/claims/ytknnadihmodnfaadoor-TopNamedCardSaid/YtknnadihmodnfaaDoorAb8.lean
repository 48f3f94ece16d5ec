/-
  ABBR, WALKED: TopNamed.
-/
import Derived.Test.YtknnadihmodnfaaDoorAb6
namespace Go.Proofs.YtknnadihmodnfaaDoor.Ab
open Go.ChangeShapes Go.WideShapes Go.ChangeAt Go.RowKit
open Go.Proofs.YtknnadihmodnfaaDoor
open Go.Proofs.YtknnadihmodnfaaDoor.Wd
set_option linter.unusedVariables false
set_option maxHeartbeats 1600000 in
theorem instant_ok (n c s v : Int) (w : World) (hc : 0 ≤ c ∧ c < 3) (hn : -1099511627776 ≤ n ∧ n ≤ 1099511627776) (hs : -1099511627776 ≤ s ∧ s ≤ 1099511627776) (hv : -1099511627776 ≤ v ∧ v ≤ 1099511627776) :
    Calls Tryd.prog 14 #[.int .i64 n, .int .u8 c, .int .i64 s, .int .i64 v] w fun e w' => e = .returned (.tuple #[.int .i64 (if c = 0 then n - v - s else if c = 1 then n - s else n), .int .i64 0]) ∧ w' = w := by
  have x0 : ∀ w, (Instr.index 33 (.agg #[.int .i64 n, .int .i64 s, .int .i64 v]) (.int .i64 0)).run Tryd.prog w = .ok (.int .i64 n) w := fun _ => by kernel_rfl
  have x1 : ∀ w, (Instr.index 33 (.agg #[.int .i64 n, .int .i64 s, .int .i64 v]) (.int .i64 1)).run Tryd.prog w = .ok (.int .i64 s) w := fun _ => by kernel_rfl
  have x2 : ∀ w, (Instr.index 33 (.agg #[.int .i64 n, .int .i64 s, .int .i64 v]) (.int .i64 2)).run Tryd.prog w = .ok (.int .i64 v) w := fun _ => by kernel_rfl
  obtain ⟨hc1, hc2⟩ := hc; obtain ⟨hn1, hn2⟩ := hn; obtain ⟨hs1, hs2⟩ := hs; obtain ⟨hv1, hv2⟩ := hv
  have hcc : c = 0 ∨ c = 1 ∨ c = 2 := by omega
  go_enter Tryd.func14, Tryd.ntmps14
  go_wp2_with fail
  go_loop [18] (fun i => i = .int .i64 0 ∨ i = .int .i64 1 ∨ i = .int .i64 2 ∨ i = .int .i64 3) (fun i => 3 - (intOf i).toNat)
  case atStart => exact Or.inl rfl
  case round =>
    rcases hrel with rfl | rfl | rfl | rfl
    · go_wp2_with fail
      go_round
      case rel => exact Or.inr (Or.inl rfl)
      case measure => simp [intOf]
    · go_wp2_with fail
      go_round
      case rel => exact Or.inr (Or.inr (Or.inl rfl))
      case measure => simp [intOf]
    · go_wp2_with fail
      go_round
      case rel => exact Or.inr (Or.inr (Or.inr rfl))
      case measure => simp [intOf]
    · clear x0 x1 x2
      rcases hcc with rfl | rfl | rfl
      all_goals
        go_wp2_with fail
        go_ret2
        exact ⟨rfl, rfl⟩
set_option maxHeartbeats 1600000 in
theorem begins4_any (w : World) : Calls Tryd.prog 11 #[] w fun e w' => e = .returned (.bool true) ∧ Below w.heap.size w w' := by
  have c1 := fun w => instant_ok 100 0 10 1 w (by decide) (by decide) (by decide) (by decide)
  simp only [show (100 : Int) - 1 - 10 = 89 by decide, if_pos] at c1
  have c2 := fun w => offset_at (w := w) (o := 3600) (x := ⟨#[43, 48, 49]⟩) (n := 0) (by decide +kernel) (by decide +kernel)
  go_enter Tryd.func11, Tryd.ntmps11
  go_wp2_with fail
  refine (c1 _).mono ?_; rintro e w1 ⟨rfl, rfl⟩; clear c1
  go_wp2_with fail
  refine (c2 _).mono ?_; rintro e w2 ⟨rfl, hb2⟩; clear c2
  go_wp2_with fail
  go_ret
  exact ⟨rfl, hb2⟩
theorem ofz_at (l : ByteArray) (n : Int) (d : Bool) (w : World) (hT : Tb w) (hl : l.size ≤ 1000000) (h : letB (L l) = true) :
    Calls Tryd.prog 10 #[.string ⟨#[37, 122]⟩, .string l, .int .i64 n, .bool d] w fun e w' => e = .returned (.tuple #[.string (B (offT n)), .int .i64 (offE n)]) ∧ Below w.heap.size w w' :=
  of_at (f := ⟨#[37, 122]⟩) hT (by decide) hl (of_z (L l) n d h)
set_option maxRecDepth 20000 in
set_option maxHeartbeats 3200000 in
theorem named_any (a b : Int) (d : Bool) (w : World) (hT : Tb w) : Calls Tryd.prog 4 #[.int .i64 a, .int .i64 b, .bool d] w fun e w' => e = .returned (.bool true) ∧ Below w.heap.size w w' := by
  have h0 := TI.start hT
  have hbg := fun w => begins4_any w
  have hx := fun w hT => ofz_at ⟨#[83]⟩ a d w hT (by decide) (by decide)
  have hy := fun w hT => ofz_at ⟨#[]⟩ b (!d) w hT (by decide) (by decide)
  cases ha : offB a with
  | false =>
    have hE : offE a = 1 := by unfold offE; rw [ha]; rfl
    rw [hE] at hx
    unfold offB at ha
    simp only [decide_eq_false_iff_not] at ha
    have hr : a ≤ -360000 ∨ (-360000 < a ∧ 360000 ≤ a) := by omega
    clear ha hE
    generalize offE b = E2 at *
    generalize B (offT a) = T1 at *
    generalize B (offT b) = T2 at *
    rcases hr with r1 | ⟨r1, r2⟩
    · have q1 : decide (-360000 < a) = false := by simpa using r1
      go_enter Tryd.func4, Tryd.ntmps4
      go_wp2_with fail
      refine (hbg _ ).mono ?_; rintro e w1 ⟨rfl, hb1⟩; have i1 := h0.call hb1; clear hb1 h0
      go_wp2_with fail
      refine (hx _ i1.1).mono ?_; rintro e w2 ⟨rfl, hb2⟩; have i2 := i1.call hb2; clear hb2 i1
      go_wp2_with fail
      refine (hy _ i2.1).mono ?_; rintro e w3 ⟨rfl, hb3⟩; have i3 := i2.call hb3; clear hb3 i2
      go_wp2_with fail
      go_ret
      exact ⟨rfl, i3.2⟩
    · have q2 : decide (a < 360000) = false := by simpa using r2
      go_enter Tryd.func4, Tryd.ntmps4
      go_wp2_with fail
      refine (hbg _ ).mono ?_; rintro e w1 ⟨rfl, hb1⟩; have i1 := h0.call hb1; clear hb1 h0
      go_wp2_with fail
      refine (hx _ i1.1).mono ?_; rintro e w2 ⟨rfl, hb2⟩; have i2 := i1.call hb2; clear hb2 i1
      go_wp2_with fail
      refine (hy _ i2.1).mono ?_; rintro e w3 ⟨rfl, hb3⟩; have i3 := i2.call hb3; clear hb3 i2
      go_wp2_with fail
      go_ret
      exact ⟨rfl, i3.2⟩
  | true =>
    have hE : offE a = 0 := by unfold offE; rw [ha]; rfl
    rw [hE] at hx
    have ha' := ha
    unfold offB at ha'
    simp only [decide_eq_true_eq] at ha'
    obtain ⟨r1, r2⟩ := ha'
    have hp := fun w => parse_at (w := w) (s := B (offT a)) (v := a) (n := 0) (by have := off_len ha; show (offT a).toArray.size ≤ _; simp; omega) (parN_off ha) (parE_off ha)
    have hl := fun w => letter_at (w := w) (s := B (offT a)) (b := true) (by have := off_len ha; show (offT a).toArray.size ≤ _; simp; omega) (off_let ha)
    have hk := fun w hT => check_at (w := w) (s := B (offT a)) (b := true) hT (by have := off_len ha; show (offT a).toArray.size ≤ _; simp; omega) (off_chk ha)
    simp only [show okE true = 0 from rfl] at hl hk
    cases hb : offB b with
    | false =>
      have hE2 : offE b = 1 := by unfold offE; rw [hb]; rfl
      rw [hE2] at hy
      clear ha hb hE hE2 hp hl hk
      generalize B (offT a) = T1 at *
      generalize B (offT b) = T2 at *
      go_enter Tryd.func4, Tryd.ntmps4
      go_wp2_with fail
      refine (hbg _ ).mono ?_; rintro e w1 ⟨rfl, hb1⟩; have i1 := h0.call hb1; clear hb1 h0
      go_wp2_with fail
      refine (hx _ i1.1).mono ?_; rintro e w2 ⟨rfl, hb2⟩; have i2 := i1.call hb2; clear hb2 i1
      go_wp2_with fail
      refine (hy _ i2.1).mono ?_; rintro e w3 ⟨rfl, hb3⟩; have i3 := i2.call hb3; clear hb3 i2
      go_wp2_with fail
      go_ret
      exact ⟨rfl, i3.2⟩
    | true =>
      have hE2 : offE b = 0 := by unfold offE; rw [hb]; rfl
      rw [hE2] at hy
      by_cases hq : a = b
      · subst hq
        clear ha hb hE hE2
        generalize B (offT a) = T1 at *
        go_enter Tryd.func4, Tryd.ntmps4
        go_wp2_with fail
        refine (hbg _ ).mono ?_; rintro e w1 ⟨rfl, hb1⟩; have i1 := h0.call hb1; clear hb1 h0
        go_wp2_with fail
        refine (hx _ i1.1).mono ?_; rintro e w2 ⟨rfl, hb2⟩; have i2 := i1.call hb2; clear hb2 i1
        go_wp2_with fail
        refine (hy _ i2.1).mono ?_; rintro e w3 ⟨rfl, hb3⟩; have i3 := i2.call hb3; clear hb3 i2
        go_wp2_with fail
        refine (hp _ ).mono ?_; rintro e w4 ⟨rfl, hb4⟩; have i4 := i3.call hb4; clear hb4 i3
        go_wp2_with fail
        refine (hl _ ).mono ?_; rintro e w5 ⟨rfl, hb5⟩; have i5 := i4.call hb5; clear hb5 i4
        go_wp2_with fail
        refine (hk _ i5.1).mono ?_; rintro e w6 ⟨rfl, hb6⟩; have i6 := i5.call hb6; clear hb6 i5
        go_wp2_with fail
        go_ret
        exact ⟨rfl, i6.2⟩
      · have hne : ((B (offT a)).toList == (B (offT b)).toList) = false := by
          rw [toList_L, toList_L, beq_eq_false_iff_ne]
          exact fun e => hq ((off_inj ha hb).1 e)
        have hq' : (a == b) = false := by simpa using hq
        clear ha hb hE hE2
        generalize B (offT a) = T1 at *
        generalize B (offT b) = T2 at *
        go_enter Tryd.func4, Tryd.ntmps4
        go_wp2_with fail
        refine (hbg _ ).mono ?_; rintro e w1 ⟨rfl, hb1⟩; have i1 := h0.call hb1; clear hb1 h0
        go_wp2_with fail
        refine (hx _ i1.1).mono ?_; rintro e w2 ⟨rfl, hb2⟩; have i2 := i1.call hb2; clear hb2 i1
        go_wp2_with fail
        refine (hy _ i2.1).mono ?_; rintro e w3 ⟨rfl, hb3⟩; have i3 := i2.call hb3; clear hb3 i2
        go_wp2_with fail
        refine (hp _ ).mono ?_; rintro e w4 ⟨rfl, hb4⟩; have i4 := i3.call hb4; clear hb4 i3
        go_wp2_with fail
        refine (hl _ ).mono ?_; rintro e w5 ⟨rfl, hb5⟩; have i5 := i4.call hb5; clear hb5 i4
        go_wp2_with fail
        refine (hk _ i5.1).mono ?_; rintro e w6 ⟨rfl, hb6⟩; have i6 := i5.call hb6; clear hb6 i5
        go_wp2_with fail
        go_ret
        exact ⟨rfl, i6.2⟩
end Go.Proofs.YtknnadihmodnfaaDoor.Ab
