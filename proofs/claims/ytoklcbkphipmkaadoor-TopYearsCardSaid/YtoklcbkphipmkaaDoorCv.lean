/-
  THE CALENDAR's FUNCTIONS, WALKED: each returns what the plain law says (the program).
-/
import Derived.Test.YtoklcbkphipmkaaDoorRows
import Derived.Test.YtoklcbkphipmkaaDoorCalM
import Derived.WalkKit
import Derived.ProofKit
import Derived.Outline
import Derived.Lib.Hide
import Derived.Deep.DeepCutAuto
namespace Go.Proofs.YtoklcbkphipmkaaDoor.Civ
open Go.ChangeShapes Go.WideShapes Go.ChangeAt Go.RowKit
set_option linter.unusedVariables false
theorem ret_bool {a b : Bool} (h : a = b) : Ending.returned (.bool a) = Ending.returned (.bool b) := by rw [h]
theorem ret_int {k : IntKind} {a b : Int} (h : a = b) : Ending.returned (.int k a) = Ending.returned (.int k b) := by rw [h]
theorem ret_two {k : IntKind} {a b c d : Int} (h : a = b) (h' : c = d) : Ending.returned (.tuple #[.int k a, .int .i64 c]) = Ending.returned (.tuple #[.int k b, .int .i64 d]) := by rw [h, h']
/-- the table of the months' lengths lies in block 0 -/
def lens : List Int := [31, 28, 31, 30, 31, 30, 31, 31, 30, 31, 30, 31]
def Tab (w : World) : Prop := 0 < w.heap.size ∧ ∀ i, i < 12 → w.cell? ⟨0, i, none⟩ = some (.int .i64 (lens.getD i 0))
theorem Tab.below {B : Nat} {w w' : World} (h : Tab w) (hB : 0 < B) (hb : Below B w w') : Tab w' := by
  refine ⟨Nat.lt_of_lt_of_le h.1 hb.size, fun i hi => ?_⟩
  rw [hb.cell (p := ⟨0, i, none⟩) hB]
  exact h.2 i hi
theorem lens_at (y m : Int) (h1 : 1 ≤ m) (h2 : m ≤ 12) (h : m ≠ 2 ∨ Cal.leap y = false) : lens.getD (m - 1).toNat 0 = Cal.mlen y m := by
  have : m = 1 ∨ m = 2 ∨ m = 3 ∨ m = 4 ∨ m = 5 ∨ m = 6 ∨ m = 7 ∨ m = 8 ∨ m = 9 ∨ m = 10 ∨ m = 11 ∨ m = 12 := by omega
  rcases this with e | e | e | e | e | e | e | e | e | e | e | e <;> subst e <;> simp [Cal.mlen, lens]
  rcases h with h | h
  · exact absurd rfl h
  · simp [h]
set_option maxHeartbeats 400000 in
theorem leap_any (y : Int) (w : World) :
    Calls Tryd.prog 73 #[.int .i64 y] w fun e w' => e = .returned (.bool (Cal.leap y)) ∧ w = w' := by
  go_enter Tryd.func73, Tryd.ntmps73
  go_wp2
  all_goals (have _t := Cal.tm y 4; have _u := Cal.tm y 100; have _v := Cal.tm y 400; go_ret; refine ⟨ret_bool ?_, rfl⟩; rw [Bool.eq_iff_iff, Cal.leap_iff]; simp; try omega)
theorem bnd_no {a lo hi : Int} (h : ¬ (lo ≤ a ∧ a ≤ hi)) : a < lo ∨ (lo ≤ a ∧ hi < a) := by omega
/-- each way out of bounds -/
theorem len_no (y m : Int) (w : World) (h : ¬ (1 ≤ y ∧ y ≤ 9999 ∧ 1 ≤ m ∧ m ≤ 12)) :
    Calls Tryd.prog 48 #[.int .i64 y, .int .i64 m] w fun e w' => e = .returned (.tuple #[.int .i64 0, .int .i64 1]) ∧ w = w' := by
  have hh : y < 1 ∨ (1 ≤ y ∧ 9999 < y) ∨ (1 ≤ y ∧ y ≤ 9999 ∧ m < 1) ∨ (1 ≤ y ∧ y ≤ 9999 ∧ 1 ≤ m ∧ 12 < m) := by omega
  clear h
  rcases hh with h1 | ⟨h1, h2⟩ | ⟨h1, h2, h3⟩ | ⟨h1, h2, h3, h4⟩
  all_goals
    go_enter Tryd.func48, Tryd.ntmps48
    go_wp2
    go_ret2
    exact ⟨rfl, rfl⟩
set_option maxHeartbeats 800000 in
theorem len_yes (y m : Int) (w : World) (h1 : 1 ≤ y) (h2 : y ≤ 9999) (h3 : 1 ≤ m) (h4 : m ≤ 12) (hT : Tab w) :
    Calls Tryd.prog 48 #[.int .i64 y, .int .i64 m] w fun e w' => e = .returned (.tuple #[.int .i64 (Cal.mlen y m), .int .i64 0]) ∧ w = w' := by
  by_cases hm : m = 2
  · subst hm
    cases hl : Cal.leap y
    · have hc := hT.2 1 (by omega)
      have H := Lib.hid hl; clear hl
      go_enter Tryd.func48, Tryd.ntmps48
      go_wp2_with (go_at_call 73; refine (leap_any _ _).mono ?_; rintro e w' ⟨rfl, rfl⟩; rw [H.out])
      go_ret2
      exact ⟨ret_two (by simp [Cal.mlen, H.out, lens]) rfl, rfl⟩
    · have H := Lib.hid hl; clear hl
      go_enter Tryd.func48, Tryd.ntmps48
      go_wp2_with (go_at_call 73; refine (leap_any _ _).mono ?_; rintro e w' ⟨rfl, rfl⟩; rw [H.out])
      go_ret2
      exact ⟨ret_two (by simp [Cal.mlen, H.out]) rfl, rfl⟩
  · have hb : (m == 2) = false := by simpa using hm
    have hc : w.cell? ⟨0, m.toNat - 1, none⟩ = some (.int .i64 (Cal.mlen y m)) := by
      rw [← lens_at y m h3 h4 (.inl hm), show (m - 1).toNat = m.toNat - 1 from by omega]; exact hT.2 _ (by omega)
    go_enter Tryd.func48, Tryd.ntmps48
    go_wp2
    go_ret2
    exact ⟨rfl, rfl⟩
theorem len_any (y m : Int) (w : World) (hT : Tab w) :
    Calls Tryd.prog 48 #[.int .i64 y, .int .i64 m] w fun e w' => e = .returned (.tuple #[.int .i64 (Cal.lenV y m), .int .i64 (Cal.lenE y m)]) ∧ w = w' := by
  by_cases h : 1 ≤ y ∧ y ≤ 9999 ∧ 1 ≤ m ∧ m ≤ 12
  · have e := (Cal.okYM_iff y m).2 h
    unfold Cal.lenV Cal.lenE; rw [if_pos e, if_pos e]
    exact len_yes y m w h.1 h.2.1 h.2.2.1 h.2.2.2 hT
  · have e := Cal.okYM_no h
    unfold Cal.lenV Cal.lenE; rw [e]
    exact len_no y m w h
theorem number_any (y m d : Int) (w : World) (h1 : 1 ≤ y) (h2 : y ≤ 10000) (h3 : 1 ≤ m) (h4 : m ≤ 12) (h5 : 1 ≤ d) (h6 : d ≤ 31) :
    Calls Tryd.prog 75 #[.int .i64 y, .int .i64 m, .int .i64 d] w fun e w' => e = .returned (.int .i64 (Cal.num y m d)) ∧ w = w' := by
  by_cases hm : m < 3
  · have hn : m - 3 < 0 := by omega
    have H := Cal.num_march y m d h3 h4
    unfold Cal.marchY Cal.marchM at H
    rw [if_pos (by omega), if_pos (by omega)] at H
    have HH := Lib.hid H; clear H
    go_enter Tryd.func75, Tryd.ntmps75
    go_wp2
    go_ret
    exact ⟨ret_int (by rw [HH.out]; omega), rfl⟩
  · have hn : ¬ m - 3 < 0 := by omega
    have H := Cal.num_march y m d h3 h4
    unfold Cal.marchY Cal.marchM at H
    rw [if_neg (by omega), if_neg (by omega)] at H
    have HH := Lib.hid H; clear H
    go_enter Tryd.func75, Tryd.ntmps75
    go_wp2
    go_ret
    exact ⟨ret_int (by rw [HH.out]; omega), rfl⟩
theorem first_num (y : Int) : Cal.num y 1 1 = Cal.first y := by simp [Cal.num, Cal.cum]
theorem tmod7 (n : Int) : n.tmod 7 = n % 7 ∨ n.tmod 7 = n % 7 - 7 := by
  rw [Int.tmod_eq_emod]; split
  · left; simp
  · right; simp
theorem wd_any (n : Int) (w : World) :
    Calls Tryd.prog 50 #[.int .i64 n] w fun e w' => e = .returned (.int .i64 (Cal.wday n)) ∧ w = w' := by
  have H := tmod7 n
  go_enter Tryd.func50, Tryd.ntmps50
  go_wp2
  go_ret
  refine ⟨ret_int ?_, rfl⟩
  unfold Cal.wday
  omega
abbrev dateV (y m d : Int) : Value := .agg #[.int .i64 y, .int .i64 m, .int .i64 d]
theorem lenE_bd (y m : Int) : Cal.lenE y m = 0 ∨ Cal.lenE y m = 1 := by unfold Cal.lenE; split <;> simp
theorem bcell {W w1 : World} (hb : Below W.heap.size W w1) : (∀ b o, b < W.heap.size → w1.cell? ⟨b, o, none⟩ = W.cell? ⟨b, o, none⟩) ∧ (∀ b o, b < W.heap.size → w1.frozen? ⟨b, o, none⟩ = W.frozen? ⟨b, o, none⟩) :=
  ⟨fun b o h => hb.cell (p := ⟨b, o, none⟩) h, fun b o h => hb.frozen (p := ⟨b, o, none⟩) h⟩
theorem chk_yes {y m d : Int} (h : Cal.okYM y m = true) : (1 ≤ d ∧ d ≤ Cal.mlen y m → Cal.chkE y m d = 0) ∧ (d < 1 ∨ Cal.mlen y m < d → Cal.chkE y m d = 1) := by
  rw [Cal.okYM_iff] at h
  unfold Cal.chkE
  refine ⟨fun g => ?_, fun g => ?_⟩
  · rw [if_pos ((Cal.okD_iff _ _ _).2 (by omega))]
  · rw [Cal.okD_no (by omega)]; rfl
theorem chk_no {y m d : Int} (h : ¬ Cal.okYM y m = true) : Cal.chkE y m d = 1 := by
  rw [Cal.okYM_iff] at h
  unfold Cal.chkE
  rw [Cal.okD_no (by omega)]; rfl
theorem len_of {y m : Int} (h : Cal.okYM y m = true) : Cal.lenE y m = 0 ∧ Cal.lenV y m = Cal.mlen y m := by
  unfold Cal.lenE Cal.lenV; rw [if_pos h, if_pos h]; exact ⟨rfl, rfl⟩
theorem len_off {y m : Int} (h : ¬ Cal.okYM y m = true) : Cal.lenE y m = 1 ∧ Cal.lenV y m = 0 := by
  unfold Cal.lenE Cal.lenV; rw [if_neg h, if_neg h]; exact ⟨rfl, rfl⟩
set_option maxHeartbeats 400000 in
theorem chk_any (y m d : Int) (w : World) (hT : Tab w) :
    Calls Tryd.prog 74 #[dateV y m d] w fun e w' => e = .returned (.int .i64 (Cal.chkE y m d)) ∧ Below w.heap.size w w' := by
  have hb : Below w.heap.size w (w.alloc (.cells #[.int .i64 y, .int .i64 m, .int .i64 d] 109)) := (Below.refl _ _).alloc (Nat.le_refl _) _
  have hT1 : Tab (w.alloc (.cells #[.int .i64 y, .int .i64 m, .int .i64 d] 109)) := hT.below (B := w.heap.size) hT.1 hb
  by_cases h : Cal.okYM y m = true
  · obtain ⟨hl, hv⟩ := len_of h
    obtain ⟨c0, c1⟩ := chk_yes (d := d) h
    have C0 := Lib.hid c0; have C1 := Lib.hid c1
    clear c0 c1 h
    go_enter Tryd.func74, Tryd.ntmps74
    go_wp2_with (go_at_call 48; refine (len_any _ _ _ hT1).mono ?_; rintro e w' ⟨rfl, rfl⟩)
    all_goals go_ret
    all_goals refine ⟨ret_int ?_, hb⟩
    · exact (C1.out (by assumption)).symm
    · exact (C0.out (by assumption)).symm
    · exact (C1.out (.inl (by assumption))).symm
  · obtain ⟨hl, hv⟩ := len_off h
    have C0 := Lib.hid (chk_no (d := d) h)
    clear h
    go_enter Tryd.func74, Tryd.ntmps74
    go_wp2_with (go_at_call 48; refine (len_any _ _ _ hT1).mono ?_; rintro e w' ⟨rfl, rfl⟩)
    go_ret
    exact ⟨ret_int C0.out.symm, hb⟩
set_option maxHeartbeats 400000 in
theorem days_any (y m d : Int) (w : World) (hT : Tab w) :
    Calls Tryd.prog 49 #[dateV y m d] w fun e w' => e = .returned (.tuple #[.int .i64 (Cal.numV y m d), .int .i64 (Cal.chkE y m d)]) ∧ Below w.heap.size w w' := by
  have hb : Below w.heap.size w (w.alloc (.cells #[.int .i64 y, .int .i64 m, .int .i64 d] 109)) := (Below.refl _ _).alloc (Nat.le_refl _) _
  have hT1 : Tab (w.alloc (.cells #[.int .i64 y, .int .i64 m, .int .i64 d] 109)) := hT.below (B := w.heap.size) hT.1 hb
  by_cases h : Cal.okD y m d = true
  · have hl : Cal.chkE y m d = 0 := by unfold Cal.chkE; rw [if_pos h]
    have hv : Cal.numV y m d = Cal.num y m d := by unfold Cal.numV; rw [if_pos h]
    rw [Cal.okD_iff] at h
    obtain ⟨h1, h2, h3, h4, h5, h6⟩ := h
    have h7 := (Cal.mlen_bd y m).2
    go_enter Tryd.func49, Tryd.ntmps49
    go_wp2_with (first
      | (go_at_call 74; refine (chk_any _ _ _ _ hT1).mono ?_; rintro e w1 ⟨rfl, hb1⟩; obtain ⟨hc1, hf1⟩ := bcell hb1; have hbw := hb.trans (hb1.mono (by simp)))
      | (go_at_call 75; refine (number_any _ _ _ _ (by omega) (by omega) (by omega) (by omega) (by omega) (by omega)).mono ?_; rintro e w' ⟨rfl, rfl⟩))
    go_ret2
    exact ⟨ret_two hv.symm hl.symm, hbw⟩
  · have hl : Cal.chkE y m d = 1 := by unfold Cal.chkE; rw [if_neg h]
    have hv : Cal.numV y m d = 0 := by unfold Cal.numV; rw [if_neg h]
    go_enter Tryd.func49, Tryd.ntmps49
    go_wp2_with (first
      | (go_at_call 74; refine (chk_any _ _ _ _ hT1).mono ?_; rintro e w1 ⟨rfl, hb1⟩; obtain ⟨hc1, hf1⟩ := bcell hb1; have hbw := hb.trans (hb1.mono (by simp))))
    go_ret2
    exact ⟨ret_two hv.symm hl.symm, hbw⟩
abbrev dateE (y m d e : Int) : Value := .tuple #[dateV y m d, .int .i64 e]
theorem of_off {n : Int} (h : ¬ (-719162 ≤ n ∧ n ≤ 2932896)) : dateE 0 0 0 1 = dateE (Cal.ofYV n) (Cal.ofMV n) (Cal.ofDV n) (Cal.ofE n) := by
  unfold Cal.ofYV Cal.ofMV Cal.ofDV Cal.ofE
  rw [Cal.okN_no h]; rfl
theorem of_on {n : Int} (h : -719162 ≤ n ∧ n ≤ 2932896) : dateE (Cal.dayY n) (Cal.dayM n) (Cal.dayD n) 0 = dateE (Cal.ofYV n) (Cal.ofMV n) (Cal.ofDV n) (Cal.ofE n) := by
  unfold Cal.ofYV Cal.ofMV Cal.ofDV Cal.ofE
  rw [(Cal.okN_iff n).2 h]; rfl
set_option maxHeartbeats 800000 in
theorem of_any (n : Int) (w : World) :
    Calls Tryd.prog 51 #[.int .i64 n] w fun e w' => e = .returned (dateE (Cal.ofYV n) (Cal.ofMV n) (Cal.ofDV n) (Cal.ofE n)) ∧ Below w.heap.size w w' := by
  have n1 : Cal.num 1 1 1 = -719162 := by decide
  have n2 : Cal.num 10000 1 1 = 2932897 := by decide
  by_cases h : -719162 ≤ n ∧ n ≤ 2932896
  · rw [← of_on h]
    obtain ⟨h1, h2⟩ := h
    have e0 : (n + 719468) % 146097 = Cal.oR n := rfl
    have e1 : (n + 719468) / 146097 = Cal.oG n := rfl
    have hR := Cal.oR_bd n
    have hG : 0 ≤ Cal.oG n ∧ Cal.oG n ≤ 25 := by unfold Cal.oG; omega
    have e2 : (Cal.oR n - Cal.oR n / 1460 + Cal.oR n / 36524 - Cal.oR n / 146096) / 365 = Cal.oY n := rfl
    obtain ⟨y0, y1, hr, t0, t1, hl⟩ := Cal.oY_spec n
    have e3 : Cal.oR n - (365 * Cal.oY n + Cal.oY n / 4 - Cal.oY n / 100) = Cal.oT n := rfl
    have e4 : (5 * Cal.oT n + 2) / 153 = Cal.oM n := rfl
    have k0 := (Cal.month_lem (Cal.oT n) (Cal.oM n) t0 t1 rfl).1
    have k1 := (Cal.month_lem (Cal.oT n) (Cal.oM n) t0 t1 rfl).2.1
    clear hl hr
    obtain ⟨g0, g1⟩ := hG
    obtain ⟨r0, r1⟩ := hR
    have hge : 0 ≤ Cal.oR n - Cal.oR n / 1460 + Cal.oR n / 36524 - Cal.oR n / 146096 := by omega
    have EM := Lib.hid e4
    clear e4
    go_enter Tryd.func51, Tryd.ntmps51
    go_upto_region 7 with (go_at_call 75; refine (number_any _ _ _ _ (by omega) (by omega) (by omega) (by omega) (by omega) (by omega)).mono ?_; rintro e w' ⟨rfl, rfl⟩)
    go_cut [5, 6] (fun t y wx => t = .int .i64 (Cal.oT n) ∧ y = .int .i64 (Cal.oY n + Cal.oG n * 400) ∧ wx = w.alloc (.cells #[.int .i64 0, .int .i64 0, .int .i64 0] 109))
    case first => go_wp2_with fail; go_meet; exact ⟨rfl, rfl, rfl⟩
    case rest =>
      obtain ⟨rfl, rfl, rfl⟩ := hcut
      clear e0 e1 e2 e3 hge n1 n2 r0 r1 h1 h2
      obtain ⟨T, hT⟩ : ∃ T, T = Cal.oT n := ⟨_, rfl⟩
      have HM : Cal.oM n = (5 * T + 2) / 153 := by rw [hT]; exact EM.out.symm
      have HD : Cal.dayD n = T - (153 * Cal.oM n + 2) / 5 + 1 := by rw [hT]; rfl
      rw [← hT] at t0 t1 ⊢
      have HMM : Cal.dayM n = if Cal.oM n + 3 > 12 then Cal.oM n + 3 - 12 else Cal.oM n + 3 := rfl
      have HYY : Cal.dayY n = if Cal.oM n + 3 > 12 then Cal.oY n + Cal.oG n * 400 + 1 else Cal.oY n + Cal.oG n * 400 := rfl
      generalize Cal.oM n = M at *
      generalize Cal.oY n = Y at *
      generalize Cal.oG n = G at *
      clear EM hT
      by_cases hm : M + 3 > 12
      · rw [if_pos hm] at HMM HYY
        have X1 := Lib.hid HM; have X2 := Lib.hid HD; have X3 := Lib.hid HMM; have X4 := Lib.hid HYY
        have hM : (5 * T + 2) / 153 = M := HM.symm
        clear HM HD HMM HYY
        go_wp2
        exact bodyPost_ret (v := dateE (Y + G * 400 + 1) (M + 3 - 12) (T - (153 * M + 2) / 5 + 1) 0) (by simp [results, Tryd.results51, go_sem]) rfl ⟨by rw [X2.out, X3.out, X4.out], (Below.refl _ _).alloc (Nat.le_refl _) _⟩
      · rw [if_neg hm] at HMM HYY
        have X1 := Lib.hid HM; have X2 := Lib.hid HD; have X3 := Lib.hid HMM; have X4 := Lib.hid HYY
        have hM : (5 * T + 2) / 153 = M := HM.symm
        clear HM HD HMM HYY
        go_wp2
        exact bodyPost_ret (v := dateE (Y + G * 400) (M + 3) (T - (153 * M + 2) / 5 + 1) 0) (by simp [results, Tryd.results51, go_sem]) rfl ⟨by rw [X2.out, X3.out, X4.out], (Below.refl _ _).alloc (Nat.le_refl _) _⟩
  · rw [← of_off h]
    have hh : n < -719162 ∨ (-719162 ≤ n ∧ 2932897 ≤ n) := by omega
    clear h
    rcases hh with h1 | ⟨h1, h2⟩ <;> (
      go_enter Tryd.func51, Tryd.ntmps51
      go_wp2_with (go_at_call 75; refine (number_any _ _ _ _ (by omega) (by omega) (by omega) (by omega) (by omega) (by omega)).mono ?_; rintro e w' ⟨rfl, rfl⟩)
      exact bodyPost_ret (v := dateE 0 0 0 1) (by simp [results, Tryd.results51, go_sem]) rfl ⟨rfl, (Below.refl _ _).alloc (Nat.le_refl _) _⟩)
theorem fir_of {y : Int} (h1 : 1 ≤ y) (h2 : y ≤ 10000) : Cal.firV y = Cal.first y := by unfold Cal.firV; rw [if_pos ((Cal.okF_iff y).2 ⟨h1, h2⟩)]
/-- what a walk carries: the table lies there; nothing that was there has changed -/
def Inv (w0 w : World) : Prop := Tab w ∧ Below w0.heap.size w0 w
theorem Inv.start {w : World} (h : Tab w) : Inv w w := ⟨h, Below.refl _ _⟩
theorem Inv.call {w0 w w1 : World} (h : Inv w0 w) (hb : Below w.heap.size w w1) : Inv w0 w1 := ⟨h.1.below h.1.1 hb, h.2.trans (hb.mono h.2.size)⟩
theorem Inv.alloc {w0 w : World} (h : Inv w0 w) (o : Obj) : Inv w0 (w.alloc o) := h.call ((Below.refl _ _).alloc (Nat.le_refl _) _)
theorem Inv.drew {w0 w : World} (h : Inv w0 w) : Inv w0 w.drew := h.call ((Below.refl _ _).drew)
theorem of_on4 {n : Int} (h : Cal.okN n = true) : Cal.ofYV n = Cal.dayY n ∧ Cal.ofMV n = Cal.dayM n ∧ Cal.ofDV n = Cal.dayD n ∧ Cal.ofE n = 0 := by
  unfold Cal.ofYV Cal.ofMV Cal.ofDV Cal.ofE; simp [h]
theorem of_off4 {n : Int} (h : Cal.okN n = false) : Cal.ofYV n = 0 ∧ Cal.ofMV n = 0 ∧ Cal.ofDV n = 0 ∧ Cal.ofE n = 1 := by
  unfold Cal.ofYV Cal.ofMV Cal.ofDV Cal.ofE; simp [h]
theorem num_on {y m d : Int} (h : Cal.okD y m d = true) : Cal.numV y m d = Cal.num y m d ∧ Cal.chkE y m d = 0 ∧ Cal.okN (Cal.num y m d) = true := by
  unfold Cal.numV Cal.chkE; rw [if_pos h, if_pos h]; exact ⟨rfl, rfl, (Cal.okN_iff _).2 (Cal.num_range h)⟩
theorem num_off {y m d : Int} (h : ¬ Cal.okD y m d = true) : Cal.numV y m d = 0 ∧ Cal.chkE y m d = 1 := by
  unfold Cal.numV Cal.chkE; rw [if_neg h, if_neg h]; exact ⟨rfl, rfl⟩
theorem fir_on {y : Int} (h1 : 1 ≤ y) (h2 : y ≤ 10000) : Cal.firV y = Cal.first y ∧ Cal.firE y = 0 := by
  unfold Cal.firV Cal.firE; rw [if_pos ((Cal.okF_iff y).2 ⟨h1, h2⟩), if_pos ((Cal.okF_iff y).2 ⟨h1, h2⟩)]; exact ⟨rfl, rfl⟩
theorem fir_off {y : Int} (h : ¬ (1 ≤ y ∧ y ≤ 10000)) : Cal.firV y = 0 ∧ Cal.firE y = 1 := by
  unfold Cal.firV Cal.firE; rw [Cal.okF_no h]; exact ⟨rfl, rfl⟩
theorem wday_bd (n : Int) : 0 ≤ Cal.wday n ∧ Cal.wday n ≤ 6 := by unfold Cal.wday; omega
end Go.Proofs.YtoklcbkphipmkaaDoor.Civ
