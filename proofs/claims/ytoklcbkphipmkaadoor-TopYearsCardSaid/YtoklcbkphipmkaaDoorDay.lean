/-
  DAYS OF RULES, WALKED: whether a day is right; the day of a month that it tells.
-/
import Derived.Test.YtoklcbkphipmkaaDoorCv
import Derived.Test.YtoklcbkphipmkaaDoorArm
import Derived.BigQuiet
namespace Go.Proofs.YtoklcbkphipmkaaDoor.Dy
open Go.ChangeShapes Go.WideShapes Go.ChangeAt Go.RowKit
open Go.Proofs.YtoklcbkphipmkaaDoor
open Go.Proofs.YtoklcbkphipmkaaDoor.Wd (Blk)
open Go.Proofs.YtoklcbkphipmkaaDoor.Civ (Tab ret_int ret_two len_any days_any wd_any of_any dateV dateE len_of len_off num_on)
set_option linter.unusedVariables false
abbrev dayV (k n dw : Int) : Value := .agg #[.int .u8 k, .int .i64 n, .int .i64 dw]
def dLo (k : Int) : Int := if k = 1 then 0 else 1
def dHi (k : Int) : Int := if k = 1 then 0 else 31
def dDs (k : Int) : Int := if k = 0 then 0 else 6
def dOk (k n dw : Int) : Bool := decide (k ≤ 3 ∧ dLo k ≤ n ∧ n ≤ dHi k ∧ 0 ≤ dw ∧ dw ≤ dDs k)
def dE (k n dw : Int) : Int := if dOk k n dw = true then 0 else 2
theorem dE_no {k n dw : Int} (h : ¬ (k ≤ 3 ∧ dLo k ≤ n ∧ n ≤ dHi k ∧ 0 ≤ dw ∧ dw ≤ dDs k)) : dE k n dw = 2 := by
  unfold dE dOk; rw [if_neg (by simpa using h)]
theorem dE_yes {k n dw : Int} (h : k ≤ 3 ∧ dLo k ≤ n ∧ n ≤ dHi k ∧ 0 ≤ dw ∧ dw ≤ dDs k) : dE k n dw = 0 := by
  unfold dE dOk; rw [if_pos (by simpa using h)]
theorem d_box (w : World) (u : Array Value) : Below w.heap.size w (w.alloc (.cells u 30)) := (Below.refl _ _).alloc (Nat.le_refl _) _
set_option maxHeartbeats 1600000 in
theorem dchk_any (k n dw : Int) (w : World) (hk : 0 ≤ k) :
    Calls Tryd.prog 19 #[dayV k n dw] w fun e w' => e = .returned (.int .i64 (dE k n dw)) ∧ Below w.heap.size w w' := by
  have hb := d_box w #[.int .u8 k, .int .i64 n, .int .i64 dw]
  by_cases h4 : 3 < k
  · have HE := Lib.hid (dE_no (k := k) (n := n) (dw := dw) (by omega))
    have e0 : (k == 0) = false := by rw [beq_eq_false_iff_ne]; omega
    have e1 : (k == 1) = false := by rw [beq_eq_false_iff_ne]; omega
    have e2 : (k == 2) = false := by rw [beq_eq_false_iff_ne]; omega
    have e3 : (k == 3) = false := by rw [beq_eq_false_iff_ne]; omega
    clear h4 hk
    go_enter Tryd.func19, Tryd.ntmps19
    go_wp2
    go_ret
    exact ⟨ret_int HE.out.symm, hb⟩
  · have hkk : k = 0 ∨ k = 1 ∨ k = 2 ∨ k = 3 := by omega
    clear h4 hk
    rcases hkk with rfl | rfl | rfl | rfl
    · have HE0 := Lib.hid (@dE_no 0 n dw)
      have HE1 := Lib.hid (@dE_yes 0 n dw)
      have el : dLo 0 = 1 := by decide
      have eh : dHi 0 = 31 := by decide
      have es : dDs 0 = 0 := by decide
      have hc : n < 1 ∨ (¬ n < 1 ∧ 31 < n) ∨ (¬ n < 1 ∧ ¬ 31 < n ∧ dw < 0) ∨ (¬ n < 1 ∧ ¬ 31 < n ∧ ¬ dw < 0 ∧ 0 < dw) ∨ (¬ n < 1 ∧ ¬ 31 < n ∧ ¬ dw < 0 ∧ ¬ 0 < dw) := by omega
      rcases hc with h1 | ⟨h1, h2⟩ | ⟨h1, h2, h3⟩ | ⟨h1, h2, h3, h4⟩ | ⟨h1, h2, h3, h4⟩
      · have HE := Lib.hid (HE0.out (by rw [el, eh, es]; omega))
        clear HE0 HE1 el eh es
        go_enter Tryd.func19, Tryd.ntmps19
        go_wp2
        go_ret
        exact ⟨ret_int HE.out.symm, hb⟩
      · have HE := Lib.hid (HE0.out (by rw [el, eh, es]; omega))
        clear HE0 HE1 el eh es
        go_enter Tryd.func19, Tryd.ntmps19
        go_wp2
        go_ret
        exact ⟨ret_int HE.out.symm, hb⟩
      · have HE := Lib.hid (HE0.out (by rw [el, eh, es]; omega))
        clear HE0 HE1 el eh es
        go_enter Tryd.func19, Tryd.ntmps19
        go_wp2
        go_ret
        exact ⟨ret_int HE.out.symm, hb⟩
      · have HE := Lib.hid (HE0.out (by rw [el, eh, es]; omega))
        clear HE0 HE1 el eh es
        go_enter Tryd.func19, Tryd.ntmps19
        go_wp2
        go_ret
        exact ⟨ret_int HE.out.symm, hb⟩
      · have HE := Lib.hid (HE1.out (by rw [el, eh, es]; omega))
        clear HE0 HE1 el eh es
        go_enter Tryd.func19, Tryd.ntmps19
        go_wp2
        go_ret
        exact ⟨ret_int HE.out.symm, hb⟩
    · have HE0 := Lib.hid (@dE_no 1 n dw)
      have HE1 := Lib.hid (@dE_yes 1 n dw)
      have el : dLo 1 = 0 := by decide
      have eh : dHi 1 = 0 := by decide
      have es : dDs 1 = 6 := by decide
      have hc : n < 0 ∨ (¬ n < 0 ∧ 0 < n) ∨ (¬ n < 0 ∧ ¬ 0 < n ∧ dw < 0) ∨ (¬ n < 0 ∧ ¬ 0 < n ∧ ¬ dw < 0 ∧ 6 < dw) ∨ (¬ n < 0 ∧ ¬ 0 < n ∧ ¬ dw < 0 ∧ ¬ 6 < dw) := by omega
      rcases hc with h1 | ⟨h1, h2⟩ | ⟨h1, h2, h3⟩ | ⟨h1, h2, h3, h4⟩ | ⟨h1, h2, h3, h4⟩
      · have HE := Lib.hid (HE0.out (by rw [el, eh, es]; omega))
        clear HE0 HE1 el eh es
        go_enter Tryd.func19, Tryd.ntmps19
        go_wp2
        go_ret
        exact ⟨ret_int HE.out.symm, hb⟩
      · have HE := Lib.hid (HE0.out (by rw [el, eh, es]; omega))
        clear HE0 HE1 el eh es
        go_enter Tryd.func19, Tryd.ntmps19
        go_wp2
        go_ret
        exact ⟨ret_int HE.out.symm, hb⟩
      · have HE := Lib.hid (HE0.out (by rw [el, eh, es]; omega))
        clear HE0 HE1 el eh es
        go_enter Tryd.func19, Tryd.ntmps19
        go_wp2
        go_ret
        exact ⟨ret_int HE.out.symm, hb⟩
      · have HE := Lib.hid (HE0.out (by rw [el, eh, es]; omega))
        clear HE0 HE1 el eh es
        go_enter Tryd.func19, Tryd.ntmps19
        go_wp2
        go_ret
        exact ⟨ret_int HE.out.symm, hb⟩
      · have HE := Lib.hid (HE1.out (by rw [el, eh, es]; omega))
        clear HE0 HE1 el eh es
        go_enter Tryd.func19, Tryd.ntmps19
        go_wp2
        go_ret
        exact ⟨ret_int HE.out.symm, hb⟩
    · have HE0 := Lib.hid (@dE_no 2 n dw)
      have HE1 := Lib.hid (@dE_yes 2 n dw)
      have el : dLo 2 = 1 := by decide
      have eh : dHi 2 = 31 := by decide
      have es : dDs 2 = 6 := by decide
      have hc : n < 1 ∨ (¬ n < 1 ∧ 31 < n) ∨ (¬ n < 1 ∧ ¬ 31 < n ∧ dw < 0) ∨ (¬ n < 1 ∧ ¬ 31 < n ∧ ¬ dw < 0 ∧ 6 < dw) ∨ (¬ n < 1 ∧ ¬ 31 < n ∧ ¬ dw < 0 ∧ ¬ 6 < dw) := by omega
      rcases hc with h1 | ⟨h1, h2⟩ | ⟨h1, h2, h3⟩ | ⟨h1, h2, h3, h4⟩ | ⟨h1, h2, h3, h4⟩
      · have HE := Lib.hid (HE0.out (by rw [el, eh, es]; omega))
        clear HE0 HE1 el eh es
        go_enter Tryd.func19, Tryd.ntmps19
        go_wp2
        go_ret
        exact ⟨ret_int HE.out.symm, hb⟩
      · have HE := Lib.hid (HE0.out (by rw [el, eh, es]; omega))
        clear HE0 HE1 el eh es
        go_enter Tryd.func19, Tryd.ntmps19
        go_wp2
        go_ret
        exact ⟨ret_int HE.out.symm, hb⟩
      · have HE := Lib.hid (HE0.out (by rw [el, eh, es]; omega))
        clear HE0 HE1 el eh es
        go_enter Tryd.func19, Tryd.ntmps19
        go_wp2
        go_ret
        exact ⟨ret_int HE.out.symm, hb⟩
      · have HE := Lib.hid (HE0.out (by rw [el, eh, es]; omega))
        clear HE0 HE1 el eh es
        go_enter Tryd.func19, Tryd.ntmps19
        go_wp2
        go_ret
        exact ⟨ret_int HE.out.symm, hb⟩
      · have HE := Lib.hid (HE1.out (by rw [el, eh, es]; omega))
        clear HE0 HE1 el eh es
        go_enter Tryd.func19, Tryd.ntmps19
        go_wp2
        go_ret
        exact ⟨ret_int HE.out.symm, hb⟩
    · have HE0 := Lib.hid (@dE_no 3 n dw)
      have HE1 := Lib.hid (@dE_yes 3 n dw)
      have el : dLo 3 = 1 := by decide
      have eh : dHi 3 = 31 := by decide
      have es : dDs 3 = 6 := by decide
      have hc : n < 1 ∨ (¬ n < 1 ∧ 31 < n) ∨ (¬ n < 1 ∧ ¬ 31 < n ∧ dw < 0) ∨ (¬ n < 1 ∧ ¬ 31 < n ∧ ¬ dw < 0 ∧ 6 < dw) ∨ (¬ n < 1 ∧ ¬ 31 < n ∧ ¬ dw < 0 ∧ ¬ 6 < dw) := by omega
      rcases hc with h1 | ⟨h1, h2⟩ | ⟨h1, h2, h3⟩ | ⟨h1, h2, h3, h4⟩ | ⟨h1, h2, h3, h4⟩
      · have HE := Lib.hid (HE0.out (by rw [el, eh, es]; omega))
        clear HE0 HE1 el eh es
        go_enter Tryd.func19, Tryd.ntmps19
        go_wp2
        go_ret
        exact ⟨ret_int HE.out.symm, hb⟩
      · have HE := Lib.hid (HE0.out (by rw [el, eh, es]; omega))
        clear HE0 HE1 el eh es
        go_enter Tryd.func19, Tryd.ntmps19
        go_wp2
        go_ret
        exact ⟨ret_int HE.out.symm, hb⟩
      · have HE := Lib.hid (HE0.out (by rw [el, eh, es]; omega))
        clear HE0 HE1 el eh es
        go_enter Tryd.func19, Tryd.ntmps19
        go_wp2
        go_ret
        exact ⟨ret_int HE.out.symm, hb⟩
      · have HE := Lib.hid (HE0.out (by rw [el, eh, es]; omega))
        clear HE0 HE1 el eh es
        go_enter Tryd.func19, Tryd.ntmps19
        go_wp2
        go_ret
        exact ⟨ret_int HE.out.symm, hb⟩
      · have HE := Lib.hid (HE1.out (by rw [el, eh, es]; omega))
        clear HE0 HE1 el eh es
        go_enter Tryd.func19, Tryd.ntmps19
        go_wp2
        go_ret
        exact ⟨ret_int HE.out.symm, hb⟩
/-- the day of a month that a right day tells -/
def inOf (k n y m : Int) : Int := if k = 1 then Cal.mlen y m else n
def inN (k n dw y m : Int) : Int :=
  let b := Cal.num y m (inOf k n y m)
  if k = 0 then b else if k = 2 then b + (dw - Cal.wday b) % 7 else b - (Cal.wday b - dw) % 7
def inE (k n dw y m : Int) : Int :=
  if dE k n dw = 2 then 2 else if Cal.lenE y m = 1 then 1 else if Cal.mlen y m < n then 3 else if Cal.okN (inN k n dw y m) = true then 0 else 1
def inV (k n dw y m : Int) : Int := if inE k n dw y m = 0 then inN k n dw y m else 0
theorem ret_in {k n dw y m a b : Int} (h : inE k n dw y m = b) (hv : inV k n dw y m = a) : Ending.returned (.tuple #[.int .i64 a, .int .i64 b]) = Ending.returned (.tuple #[.int .i64 (inV k n dw y m), .int .i64 (inE k n dw y m)]) := by rw [h, hv]
theorem inV_no {k n dw y m b : Int} (h : inE k n dw y m = b) (hb : b ≠ 0) : inV k n dw y m = 0 := by unfold inV; rw [h, if_neg hb]
theorem inV_yes {k n dw y m : Int} (h : inE k n dw y m = 0) : inV k n dw y m = inN k n dw y m := by unfold inV; rw [h, if_pos rfl]

set_option maxHeartbeats 3200000 in
theorem in_any (k n dw y m : Int) (w : World) (hT : Tab w) (hk : 0 ≤ k) :
    Calls Tryd.prog 29 #[dayV k n dw, .int .i64 y, .int .i64 m] w fun e w' => e = .returned (.tuple #[.int .i64 (inV k n dw y m), .int .i64 (inE k n dw y m)]) ∧ Below w.heap.size w w' := by
  have hb := d_box w #[.int .u8 k, .int .i64 n, .int .i64 dw]
  have zb : Blk (w.alloc (.cells #[.int .u8 k, .int .i64 n, .int .i64 dw] 30)) w.heap.size 30 #[.int .u8 k, .int .i64 n, .int .i64 dw] := Blk.new _ _ _
  by_cases hd : k ≤ 3 ∧ dLo k ≤ n ∧ n ≤ dHi k ∧ 0 ≤ dw ∧ dw ≤ dDs k
  · have hE := dE_yes hd
    by_cases hy : Cal.okYM y m = true
    · obtain ⟨hl, hv⟩ := len_of hy
      have hml := Cal.mlen_bd y m
      by_cases hlen : Cal.mlen y m < n
      · have HI := Lib.hid (show inE k n dw y m = 3 by unfold inE; rw [hE, hl, if_neg (by decide), if_neg (by decide), if_pos hlen])
        have HV := Lib.hid (inV_no HI.out (by decide))
        clear hd hy
        go_enter Tryd.func29, Tryd.ntmps29
        go_wp2_with (first | refine Wd.wpList_row_g rfl 30 _ rfl _ rfl _ _ _ _ zb Tryd.underlying30 rfl (by kernel_rfl) ?_ | (go_at_call 19; refine (dchk_any _ _ _ _ hk).mono ?_; rintro e w1 ⟨rfl, hb1⟩; rw [hE]; have hB1 := hb.trans (hb1.mono hb.size); have zb1 := zb.below hb1 zb.lt; have z1 : w1.cell? ⟨w.heap.size, 1, none⟩ = some (.int .i64 n) := zb1.cell 1; have z0 : w1.cell? ⟨w.heap.size, 0, none⟩ = some (.int .u8 k) := zb1.cell 0; have hT1 := hT.below hT.1 hB1) | (go_at_call 48; refine (len_any _ _ _ hT1).mono ?_; rintro e w2 ⟨rfl, rfl⟩; rw [hl, hv]))
        go_ret2
        exact ⟨ret_in HI.out HV.out, hB1⟩
      · have hl1 := dHi
        have HI := Lib.hid (show inE k n dw y m = if Cal.okN (inN k n dw y m) = true then 0 else 1 by unfold inE; rw [hE, hl, if_neg (by decide), if_neg (by decide), if_neg hlen])
        obtain ⟨hk3, hlo, hhi, hw0, hw6⟩ := hd
        obtain ⟨y1, y2, m1, m2⟩ := (Cal.okYM_iff y m).1 hy
        have hkk : k = 0 ∨ k = 1 ∨ k = 2 ∨ k = 3 := by omega
        clear hk3 hy
        rcases hkk with rfl | rfl | rfl | rfl
        · have hlo2 : dLo 0 = 1 := by decide
          have hds2 : dDs 0 ≤ 6 := by decide
          have hN : inN 0 n dw y m = Cal.num y m (n) := rfl
          obtain ⟨g1, g2, g3⟩ := num_on (y := y) (m := m) (d := n) ((Cal.okD_iff y m _).2 ⟨y1, y2, m1, m2, by omega, by omega⟩)
          have hD := fun w' hT' => days_any y m (n) w' hT'
          simp only [g1, g2] at hD
          have hW : ∀ w', Calls Tryd.prog 50 #[.int .i64 (Cal.num y m (n))] w' fun e w'' => e = .returned (.int .i64 (Cal.wday (Cal.num y m (n)))) ∧ w'' = w' := fun w' => (wd_any (Cal.num y m (n)) w').mono fun e w'' h => ⟨h.1, h.2.symm⟩
          obtain ⟨b1, b2⟩ := (Cal.okN_iff _).1 g3
          have hwd : 0 ≤ Cal.wday (Cal.num y m (n)) ∧ Cal.wday (Cal.num y m (n)) ≤ 6 := by unfold Cal.wday; omega
          obtain ⟨wd1, wd2⟩ := hwd
          have hw66 : dw ≤ 6 := by omega
          clear g1 g2 g3 hhi hw6 hlo hlo2 hds2
          generalize Cal.wday (Cal.num y m (n)) = wd at *
          generalize Cal.num y m (n) = b at *
          rw [hN] at HI
          have hO := fun w' => of_any (b) w'
          cases hok : Cal.okN (b) with
          | true =>
            have HI2 := Lib.hid (show inE 0 n dw y m = 0 by rw [HI.out, hok]; rfl)
            have HV := Lib.hid (show inV 0 n dw y m = b by rw [inV_yes HI2.out, hN])
            obtain ⟨o1, o2, o3, o4⟩ := Civ.of_on4 hok
            clear HI hN hok
            unfold dateE at hO
            rw [o4] at hO
            clear o1 o2 o3 o4
            go_enter Tryd.func29, Tryd.ntmps29
            go_wp2_with (first | refine Wd.wpList_row_g rfl 30 _ rfl _ rfl _ _ _ _ zb Tryd.underlying30 rfl (by kernel_rfl) ?_ | (go_at_call 19; refine (dchk_any _ _ _ _ hk).mono ?_; rintro e w1 ⟨rfl, hb1⟩; rw [hE]; have hB1 := hb.trans (hb1.mono hb.size); have zb1 := zb.below hb1 zb.lt; have z1 : w1.cell? ⟨w.heap.size, 1, none⟩ = some (.int .i64 n) := zb1.cell 1; have z0 : w1.cell? ⟨w.heap.size, 0, none⟩ = some (.int .u8 0) := zb1.cell 0; have hT1 := hT.below hT.1 hB1) | (go_at_call 48; refine (len_any _ _ _ hT1).mono ?_; rintro e w2 ⟨rfl, rfl⟩; rw [hl, hv]) | (go_at_call 49; refine (hD _ hT1).mono ?_; rintro e w3 ⟨rfl, hb3⟩; have hB3 := hB1.trans (hb3.mono hB1.size); have zb3 := zb1.below hb3 zb1.lt; have y0 : w3.cell? ⟨w.heap.size, 0, none⟩ = some (.int .u8 0) := zb3.cell 0; have y2 : w3.cell? ⟨w.heap.size, 2, none⟩ = some (.int .i64 dw) := zb3.cell 2) | (go_at_call 51; refine (hO _).mono ?_; rintro e w4 ⟨rfl, hb4⟩))
            go_ret2
            exact ⟨ret_in HI2.out HV.out, (hB3.trans (hb4.mono hB3.size)).alloc (by have := hB3.size; have := hb4.size; omega) _⟩
          | false =>
            have HI2 := Lib.hid (show inE 0 n dw y m = 1 by rw [HI.out, hok]; rfl)
            have HV := Lib.hid (inV_no HI2.out (by decide))
            obtain ⟨o1, o2, o3, o4⟩ := Civ.of_off4 hok
            clear HI hN hok
            unfold dateE at hO
            rw [o4] at hO
            clear o1 o2 o3 o4
            go_enter Tryd.func29, Tryd.ntmps29
            go_wp2_with (first | refine Wd.wpList_row_g rfl 30 _ rfl _ rfl _ _ _ _ zb Tryd.underlying30 rfl (by kernel_rfl) ?_ | (go_at_call 19; refine (dchk_any _ _ _ _ hk).mono ?_; rintro e w1 ⟨rfl, hb1⟩; rw [hE]; have hB1 := hb.trans (hb1.mono hb.size); have zb1 := zb.below hb1 zb.lt; have z1 : w1.cell? ⟨w.heap.size, 1, none⟩ = some (.int .i64 n) := zb1.cell 1; have z0 : w1.cell? ⟨w.heap.size, 0, none⟩ = some (.int .u8 0) := zb1.cell 0; have hT1 := hT.below hT.1 hB1) | (go_at_call 48; refine (len_any _ _ _ hT1).mono ?_; rintro e w2 ⟨rfl, rfl⟩; rw [hl, hv]) | (go_at_call 49; refine (hD _ hT1).mono ?_; rintro e w3 ⟨rfl, hb3⟩; have hB3 := hB1.trans (hb3.mono hB1.size); have zb3 := zb1.below hb3 zb1.lt; have y0 : w3.cell? ⟨w.heap.size, 0, none⟩ = some (.int .u8 0) := zb3.cell 0; have y2 : w3.cell? ⟨w.heap.size, 2, none⟩ = some (.int .i64 dw) := zb3.cell 2) | (go_at_call 51; refine (hO _).mono ?_; rintro e w4 ⟨rfl, hb4⟩))
            go_ret2
            exact ⟨ret_in HI2.out HV.out, (hB3.trans (hb4.mono hB3.size)).alloc (by have := hB3.size; have := hb4.size; omega) _⟩
        · have hlo2 : dLo 1 = 0 := by decide
          have hds2 : dDs 1 ≤ 6 := by decide
          have hN : inN 1 n dw y m = Cal.num y m (Cal.mlen y m) - (Cal.wday (Cal.num y m (Cal.mlen y m)) - dw) % 7 := rfl
          obtain ⟨g1, g2, g3⟩ := num_on (y := y) (m := m) (d := Cal.mlen y m) ((Cal.okD_iff y m _).2 ⟨y1, y2, m1, m2, by omega, by omega⟩)
          have hD := fun w' hT' => days_any y m (Cal.mlen y m) w' hT'
          simp only [g1, g2] at hD
          have hW : ∀ w', Calls Tryd.prog 50 #[.int .i64 (Cal.num y m (Cal.mlen y m))] w' fun e w'' => e = .returned (.int .i64 (Cal.wday (Cal.num y m (Cal.mlen y m)))) ∧ w'' = w' := fun w' => (wd_any (Cal.num y m (Cal.mlen y m)) w').mono fun e w'' h => ⟨h.1, h.2.symm⟩
          obtain ⟨b1, b2⟩ := (Cal.okN_iff _).1 g3
          have hwd : 0 ≤ Cal.wday (Cal.num y m (Cal.mlen y m)) ∧ Cal.wday (Cal.num y m (Cal.mlen y m)) ≤ 6 := by unfold Cal.wday; omega
          obtain ⟨wd1, wd2⟩ := hwd
          have hw66 : dw ≤ 6 := by omega
          clear g1 g2 g3 hhi hw6 hlo hlo2 hds2
          generalize Cal.wday (Cal.num y m (Cal.mlen y m)) = wd at *
          generalize Cal.num y m (Cal.mlen y m) = b at *
          have ht : (wd - dw + 7).tmod 7 = (wd - dw) % 7 := by rw [Int.tmod_eq_emod_of_nonneg (by omega)]; omega
          have q1 : 0 ≤ (wd - dw) % 7 ∧ (wd - dw) % 7 < 7 := by omega
          obtain ⟨q1, q2⟩ := q1
          rw [hN] at HI
          have hO := fun w' => of_any (b - (wd - dw) % 7) w'
          cases hok : Cal.okN (b - (wd - dw) % 7) with
          | true =>
            have HI2 := Lib.hid (show inE 1 n dw y m = 0 by rw [HI.out, hok]; rfl)
            have HV := Lib.hid (show inV 1 n dw y m = b - (wd - dw) % 7 by rw [inV_yes HI2.out, hN])
            obtain ⟨o1, o2, o3, o4⟩ := Civ.of_on4 hok
            clear HI hN hok
            unfold dateE at hO
            rw [o4] at hO
            clear o1 o2 o3 o4
            go_enter Tryd.func29, Tryd.ntmps29
            go_wp2_with (first | refine Wd.wpList_row_g rfl 30 _ rfl _ rfl _ _ _ _ zb Tryd.underlying30 rfl (by kernel_rfl) ?_ | (go_at_call 19; refine (dchk_any _ _ _ _ hk).mono ?_; rintro e w1 ⟨rfl, hb1⟩; rw [hE]; have hB1 := hb.trans (hb1.mono hb.size); have zb1 := zb.below hb1 zb.lt; have z1 : w1.cell? ⟨w.heap.size, 1, none⟩ = some (.int .i64 n) := zb1.cell 1; have z0 : w1.cell? ⟨w.heap.size, 0, none⟩ = some (.int .u8 1) := zb1.cell 0; have hT1 := hT.below hT.1 hB1) | (go_at_call 48; refine (len_any _ _ _ hT1).mono ?_; rintro e w2 ⟨rfl, rfl⟩; rw [hl, hv]) | (go_at_call 49; refine (hD _ hT1).mono ?_; rintro e w3 ⟨rfl, hb3⟩; have hB3 := hB1.trans (hb3.mono hB1.size); have zb3 := zb1.below hb3 zb1.lt; have y0 : w3.cell? ⟨w.heap.size, 0, none⟩ = some (.int .u8 1) := zb3.cell 0; have y2 : w3.cell? ⟨w.heap.size, 2, none⟩ = some (.int .i64 dw) := zb3.cell 2) | (go_at_call 51; refine (hO _).mono ?_; rintro e w4 ⟨rfl, hb4⟩))
            go_quiet (first | (go_at_call 50; refine Calls.quiet_of_same (hW _)))
            have hB3q : Below w.heap.size w (w3.drewN nq) := Wd.bdrewN hB3 nq
            go_wp2_with (first | (go_at_call 51; refine (hO _).mono ?_; rintro e w4 ⟨rfl, hb4⟩))
            go_ret2
            exact ⟨ret_in HI2.out HV.out, (hB3q.trans (hb4.mono hB3q.size)).alloc (by have := hB3q.size; have := hb4.size; omega) _⟩
          | false =>
            have HI2 := Lib.hid (show inE 1 n dw y m = 1 by rw [HI.out, hok]; rfl)
            have HV := Lib.hid (inV_no HI2.out (by decide))
            obtain ⟨o1, o2, o3, o4⟩ := Civ.of_off4 hok
            clear HI hN hok
            unfold dateE at hO
            rw [o4] at hO
            clear o1 o2 o3 o4
            go_enter Tryd.func29, Tryd.ntmps29
            go_wp2_with (first | refine Wd.wpList_row_g rfl 30 _ rfl _ rfl _ _ _ _ zb Tryd.underlying30 rfl (by kernel_rfl) ?_ | (go_at_call 19; refine (dchk_any _ _ _ _ hk).mono ?_; rintro e w1 ⟨rfl, hb1⟩; rw [hE]; have hB1 := hb.trans (hb1.mono hb.size); have zb1 := zb.below hb1 zb.lt; have z1 : w1.cell? ⟨w.heap.size, 1, none⟩ = some (.int .i64 n) := zb1.cell 1; have z0 : w1.cell? ⟨w.heap.size, 0, none⟩ = some (.int .u8 1) := zb1.cell 0; have hT1 := hT.below hT.1 hB1) | (go_at_call 48; refine (len_any _ _ _ hT1).mono ?_; rintro e w2 ⟨rfl, rfl⟩; rw [hl, hv]) | (go_at_call 49; refine (hD _ hT1).mono ?_; rintro e w3 ⟨rfl, hb3⟩; have hB3 := hB1.trans (hb3.mono hB1.size); have zb3 := zb1.below hb3 zb1.lt; have y0 : w3.cell? ⟨w.heap.size, 0, none⟩ = some (.int .u8 1) := zb3.cell 0; have y2 : w3.cell? ⟨w.heap.size, 2, none⟩ = some (.int .i64 dw) := zb3.cell 2) | (go_at_call 51; refine (hO _).mono ?_; rintro e w4 ⟨rfl, hb4⟩))
            go_quiet (first | (go_at_call 50; refine Calls.quiet_of_same (hW _)))
            have hB3q : Below w.heap.size w (w3.drewN nq) := Wd.bdrewN hB3 nq
            go_wp2_with (first | (go_at_call 51; refine (hO _).mono ?_; rintro e w4 ⟨rfl, hb4⟩))
            go_ret2
            exact ⟨ret_in HI2.out HV.out, (hB3q.trans (hb4.mono hB3q.size)).alloc (by have := hB3q.size; have := hb4.size; omega) _⟩
        · have hlo2 : dLo 2 = 1 := by decide
          have hds2 : dDs 2 ≤ 6 := by decide
          have hN : inN 2 n dw y m = Cal.num y m (n) + (dw - Cal.wday (Cal.num y m (n))) % 7 := rfl
          obtain ⟨g1, g2, g3⟩ := num_on (y := y) (m := m) (d := n) ((Cal.okD_iff y m _).2 ⟨y1, y2, m1, m2, by omega, by omega⟩)
          have hD := fun w' hT' => days_any y m (n) w' hT'
          simp only [g1, g2] at hD
          have hW : ∀ w', Calls Tryd.prog 50 #[.int .i64 (Cal.num y m (n))] w' fun e w'' => e = .returned (.int .i64 (Cal.wday (Cal.num y m (n)))) ∧ w'' = w' := fun w' => (wd_any (Cal.num y m (n)) w').mono fun e w'' h => ⟨h.1, h.2.symm⟩
          obtain ⟨b1, b2⟩ := (Cal.okN_iff _).1 g3
          have hwd : 0 ≤ Cal.wday (Cal.num y m (n)) ∧ Cal.wday (Cal.num y m (n)) ≤ 6 := by unfold Cal.wday; omega
          obtain ⟨wd1, wd2⟩ := hwd
          have hw66 : dw ≤ 6 := by omega
          clear g1 g2 g3 hhi hw6 hlo hlo2 hds2
          generalize Cal.wday (Cal.num y m (n)) = wd at *
          generalize Cal.num y m (n) = b at *
          have ht : (dw - wd + 7).tmod 7 = (dw - wd) % 7 := by rw [Int.tmod_eq_emod_of_nonneg (by omega)]; omega
          have q1 : 0 ≤ (dw - wd) % 7 ∧ (dw - wd) % 7 < 7 := by omega
          obtain ⟨q1, q2⟩ := q1
          rw [hN] at HI
          have hO := fun w' => of_any (b + (dw - wd) % 7) w'
          cases hok : Cal.okN (b + (dw - wd) % 7) with
          | true =>
            have HI2 := Lib.hid (show inE 2 n dw y m = 0 by rw [HI.out, hok]; rfl)
            have HV := Lib.hid (show inV 2 n dw y m = b + (dw - wd) % 7 by rw [inV_yes HI2.out, hN])
            obtain ⟨o1, o2, o3, o4⟩ := Civ.of_on4 hok
            clear HI hN hok
            unfold dateE at hO
            rw [o4] at hO
            clear o1 o2 o3 o4
            go_enter Tryd.func29, Tryd.ntmps29
            go_wp2_with (first | refine Wd.wpList_row_g rfl 30 _ rfl _ rfl _ _ _ _ zb Tryd.underlying30 rfl (by kernel_rfl) ?_ | (go_at_call 19; refine (dchk_any _ _ _ _ hk).mono ?_; rintro e w1 ⟨rfl, hb1⟩; rw [hE]; have hB1 := hb.trans (hb1.mono hb.size); have zb1 := zb.below hb1 zb.lt; have z1 : w1.cell? ⟨w.heap.size, 1, none⟩ = some (.int .i64 n) := zb1.cell 1; have z0 : w1.cell? ⟨w.heap.size, 0, none⟩ = some (.int .u8 2) := zb1.cell 0; have hT1 := hT.below hT.1 hB1) | (go_at_call 48; refine (len_any _ _ _ hT1).mono ?_; rintro e w2 ⟨rfl, rfl⟩; rw [hl, hv]) | (go_at_call 49; refine (hD _ hT1).mono ?_; rintro e w3 ⟨rfl, hb3⟩; have hB3 := hB1.trans (hb3.mono hB1.size); have zb3 := zb1.below hb3 zb1.lt; have y0 : w3.cell? ⟨w.heap.size, 0, none⟩ = some (.int .u8 2) := zb3.cell 0; have y2 : w3.cell? ⟨w.heap.size, 2, none⟩ = some (.int .i64 dw) := zb3.cell 2) | (go_at_call 51; refine (hO _).mono ?_; rintro e w4 ⟨rfl, hb4⟩))
            go_quiet (first | (go_at_call 50; refine Calls.quiet_of_same (hW _)))
            have hB3q : Below w.heap.size w (w3.drewN nq) := Wd.bdrewN hB3 nq
            go_wp2_with (first | (go_at_call 51; refine (hO _).mono ?_; rintro e w4 ⟨rfl, hb4⟩))
            go_ret2
            exact ⟨ret_in HI2.out HV.out, (hB3q.trans (hb4.mono hB3q.size)).alloc (by have := hB3q.size; have := hb4.size; omega) _⟩
          | false =>
            have HI2 := Lib.hid (show inE 2 n dw y m = 1 by rw [HI.out, hok]; rfl)
            have HV := Lib.hid (inV_no HI2.out (by decide))
            obtain ⟨o1, o2, o3, o4⟩ := Civ.of_off4 hok
            clear HI hN hok
            unfold dateE at hO
            rw [o4] at hO
            clear o1 o2 o3 o4
            go_enter Tryd.func29, Tryd.ntmps29
            go_wp2_with (first | refine Wd.wpList_row_g rfl 30 _ rfl _ rfl _ _ _ _ zb Tryd.underlying30 rfl (by kernel_rfl) ?_ | (go_at_call 19; refine (dchk_any _ _ _ _ hk).mono ?_; rintro e w1 ⟨rfl, hb1⟩; rw [hE]; have hB1 := hb.trans (hb1.mono hb.size); have zb1 := zb.below hb1 zb.lt; have z1 : w1.cell? ⟨w.heap.size, 1, none⟩ = some (.int .i64 n) := zb1.cell 1; have z0 : w1.cell? ⟨w.heap.size, 0, none⟩ = some (.int .u8 2) := zb1.cell 0; have hT1 := hT.below hT.1 hB1) | (go_at_call 48; refine (len_any _ _ _ hT1).mono ?_; rintro e w2 ⟨rfl, rfl⟩; rw [hl, hv]) | (go_at_call 49; refine (hD _ hT1).mono ?_; rintro e w3 ⟨rfl, hb3⟩; have hB3 := hB1.trans (hb3.mono hB1.size); have zb3 := zb1.below hb3 zb1.lt; have y0 : w3.cell? ⟨w.heap.size, 0, none⟩ = some (.int .u8 2) := zb3.cell 0; have y2 : w3.cell? ⟨w.heap.size, 2, none⟩ = some (.int .i64 dw) := zb3.cell 2) | (go_at_call 51; refine (hO _).mono ?_; rintro e w4 ⟨rfl, hb4⟩))
            go_quiet (first | (go_at_call 50; refine Calls.quiet_of_same (hW _)))
            have hB3q : Below w.heap.size w (w3.drewN nq) := Wd.bdrewN hB3 nq
            go_wp2_with (first | (go_at_call 51; refine (hO _).mono ?_; rintro e w4 ⟨rfl, hb4⟩))
            go_ret2
            exact ⟨ret_in HI2.out HV.out, (hB3q.trans (hb4.mono hB3q.size)).alloc (by have := hB3q.size; have := hb4.size; omega) _⟩
        · have hlo2 : dLo 3 = 1 := by decide
          have hds2 : dDs 3 ≤ 6 := by decide
          have hN : inN 3 n dw y m = Cal.num y m (n) - (Cal.wday (Cal.num y m (n)) - dw) % 7 := rfl
          obtain ⟨g1, g2, g3⟩ := num_on (y := y) (m := m) (d := n) ((Cal.okD_iff y m _).2 ⟨y1, y2, m1, m2, by omega, by omega⟩)
          have hD := fun w' hT' => days_any y m (n) w' hT'
          simp only [g1, g2] at hD
          have hW : ∀ w', Calls Tryd.prog 50 #[.int .i64 (Cal.num y m (n))] w' fun e w'' => e = .returned (.int .i64 (Cal.wday (Cal.num y m (n)))) ∧ w'' = w' := fun w' => (wd_any (Cal.num y m (n)) w').mono fun e w'' h => ⟨h.1, h.2.symm⟩
          obtain ⟨b1, b2⟩ := (Cal.okN_iff _).1 g3
          have hwd : 0 ≤ Cal.wday (Cal.num y m (n)) ∧ Cal.wday (Cal.num y m (n)) ≤ 6 := by unfold Cal.wday; omega
          obtain ⟨wd1, wd2⟩ := hwd
          have hw66 : dw ≤ 6 := by omega
          clear g1 g2 g3 hhi hw6 hlo hlo2 hds2
          generalize Cal.wday (Cal.num y m (n)) = wd at *
          generalize Cal.num y m (n) = b at *
          have ht : (wd - dw + 7).tmod 7 = (wd - dw) % 7 := by rw [Int.tmod_eq_emod_of_nonneg (by omega)]; omega
          have q1 : 0 ≤ (wd - dw) % 7 ∧ (wd - dw) % 7 < 7 := by omega
          obtain ⟨q1, q2⟩ := q1
          rw [hN] at HI
          have hO := fun w' => of_any (b - (wd - dw) % 7) w'
          cases hok : Cal.okN (b - (wd - dw) % 7) with
          | true =>
            have HI2 := Lib.hid (show inE 3 n dw y m = 0 by rw [HI.out, hok]; rfl)
            have HV := Lib.hid (show inV 3 n dw y m = b - (wd - dw) % 7 by rw [inV_yes HI2.out, hN])
            obtain ⟨o1, o2, o3, o4⟩ := Civ.of_on4 hok
            clear HI hN hok
            unfold dateE at hO
            rw [o4] at hO
            clear o1 o2 o3 o4
            go_enter Tryd.func29, Tryd.ntmps29
            go_wp2_with (first | refine Wd.wpList_row_g rfl 30 _ rfl _ rfl _ _ _ _ zb Tryd.underlying30 rfl (by kernel_rfl) ?_ | (go_at_call 19; refine (dchk_any _ _ _ _ hk).mono ?_; rintro e w1 ⟨rfl, hb1⟩; rw [hE]; have hB1 := hb.trans (hb1.mono hb.size); have zb1 := zb.below hb1 zb.lt; have z1 : w1.cell? ⟨w.heap.size, 1, none⟩ = some (.int .i64 n) := zb1.cell 1; have z0 : w1.cell? ⟨w.heap.size, 0, none⟩ = some (.int .u8 3) := zb1.cell 0; have hT1 := hT.below hT.1 hB1) | (go_at_call 48; refine (len_any _ _ _ hT1).mono ?_; rintro e w2 ⟨rfl, rfl⟩; rw [hl, hv]) | (go_at_call 49; refine (hD _ hT1).mono ?_; rintro e w3 ⟨rfl, hb3⟩; have hB3 := hB1.trans (hb3.mono hB1.size); have zb3 := zb1.below hb3 zb1.lt; have y0 : w3.cell? ⟨w.heap.size, 0, none⟩ = some (.int .u8 3) := zb3.cell 0; have y2 : w3.cell? ⟨w.heap.size, 2, none⟩ = some (.int .i64 dw) := zb3.cell 2) | (go_at_call 51; refine (hO _).mono ?_; rintro e w4 ⟨rfl, hb4⟩))
            go_quiet (first | (go_at_call 50; refine Calls.quiet_of_same (hW _)))
            have hB3q : Below w.heap.size w (w3.drewN nq) := Wd.bdrewN hB3 nq
            go_wp2_with (first | (go_at_call 51; refine (hO _).mono ?_; rintro e w4 ⟨rfl, hb4⟩))
            go_ret2
            exact ⟨ret_in HI2.out HV.out, (hB3q.trans (hb4.mono hB3q.size)).alloc (by have := hB3q.size; have := hb4.size; omega) _⟩
          | false =>
            have HI2 := Lib.hid (show inE 3 n dw y m = 1 by rw [HI.out, hok]; rfl)
            have HV := Lib.hid (inV_no HI2.out (by decide))
            obtain ⟨o1, o2, o3, o4⟩ := Civ.of_off4 hok
            clear HI hN hok
            unfold dateE at hO
            rw [o4] at hO
            clear o1 o2 o3 o4
            go_enter Tryd.func29, Tryd.ntmps29
            go_wp2_with (first | refine Wd.wpList_row_g rfl 30 _ rfl _ rfl _ _ _ _ zb Tryd.underlying30 rfl (by kernel_rfl) ?_ | (go_at_call 19; refine (dchk_any _ _ _ _ hk).mono ?_; rintro e w1 ⟨rfl, hb1⟩; rw [hE]; have hB1 := hb.trans (hb1.mono hb.size); have zb1 := zb.below hb1 zb.lt; have z1 : w1.cell? ⟨w.heap.size, 1, none⟩ = some (.int .i64 n) := zb1.cell 1; have z0 : w1.cell? ⟨w.heap.size, 0, none⟩ = some (.int .u8 3) := zb1.cell 0; have hT1 := hT.below hT.1 hB1) | (go_at_call 48; refine (len_any _ _ _ hT1).mono ?_; rintro e w2 ⟨rfl, rfl⟩; rw [hl, hv]) | (go_at_call 49; refine (hD _ hT1).mono ?_; rintro e w3 ⟨rfl, hb3⟩; have hB3 := hB1.trans (hb3.mono hB1.size); have zb3 := zb1.below hb3 zb1.lt; have y0 : w3.cell? ⟨w.heap.size, 0, none⟩ = some (.int .u8 3) := zb3.cell 0; have y2 : w3.cell? ⟨w.heap.size, 2, none⟩ = some (.int .i64 dw) := zb3.cell 2) | (go_at_call 51; refine (hO _).mono ?_; rintro e w4 ⟨rfl, hb4⟩))
            go_quiet (first | (go_at_call 50; refine Calls.quiet_of_same (hW _)))
            have hB3q : Below w.heap.size w (w3.drewN nq) := Wd.bdrewN hB3 nq
            go_wp2_with (first | (go_at_call 51; refine (hO _).mono ?_; rintro e w4 ⟨rfl, hb4⟩))
            go_ret2
            exact ⟨ret_in HI2.out HV.out, (hB3q.trans (hb4.mono hB3q.size)).alloc (by have := hB3q.size; have := hb4.size; omega) _⟩
    · obtain ⟨hl, hv⟩ := len_off hy
      have HI := Lib.hid (show inE k n dw y m = 1 by unfold inE; rw [hE, hl, if_neg (by decide), if_pos rfl])
      have HV := Lib.hid (inV_no HI.out (by decide))
      clear hd hy
      go_enter Tryd.func29, Tryd.ntmps29
      go_wp2_with (first | refine Wd.wpList_row_g rfl 30 _ rfl _ rfl _ _ _ _ zb Tryd.underlying30 rfl (by kernel_rfl) ?_ | (go_at_call 19; refine (dchk_any _ _ _ _ hk).mono ?_; rintro e w1 ⟨rfl, hb1⟩; rw [hE]; have hB1 := hb.trans (hb1.mono hb.size); have zb1 := zb.below hb1 zb.lt; have z1 : w1.cell? ⟨w.heap.size, 1, none⟩ = some (.int .i64 n) := zb1.cell 1; have z0 : w1.cell? ⟨w.heap.size, 0, none⟩ = some (.int .u8 k) := zb1.cell 0; have hT1 := hT.below hT.1 hB1) | (go_at_call 48; refine (len_any _ _ _ hT1).mono ?_; rintro e w2 ⟨rfl, rfl⟩; rw [hl, hv]))
      go_ret2
      exact ⟨ret_in HI.out HV.out, hB1⟩
  · have hE := dE_no hd
    have HI := Lib.hid (show inE k n dw y m = 2 by unfold inE; rw [hE, if_pos rfl])
    have HV := Lib.hid (inV_no HI.out (by decide))
    clear hd
    go_enter Tryd.func29, Tryd.ntmps29
    go_wp2_with (first | refine Wd.wpList_row_g rfl 30 _ rfl _ rfl _ _ _ _ zb Tryd.underlying30 rfl (by kernel_rfl) ?_ | (go_at_call 19; refine (dchk_any _ _ _ _ hk).mono ?_; rintro e w1 ⟨rfl, hb1⟩; rw [hE]; have hB1 := hb.trans (hb1.mono hb.size); have zb1 := zb.below hb1 zb.lt; have z1 : w1.cell? ⟨w.heap.size, 1, none⟩ = some (.int .i64 n) := zb1.cell 1; have z0 : w1.cell? ⟨w.heap.size, 0, none⟩ = some (.int .u8 k) := zb1.cell 0; have hT1 := hT.below hT.1 hB1) | (go_at_call 48; refine (len_any _ _ _ hT1).mono ?_; rintro e w2 ⟨rfl, rfl⟩; rw [hl, hv]))
    go_ret2
    exact ⟨ret_in HI.out HV.out, hB1⟩
end Go.Proofs.YtoklcbkphipmkaaDoor.Dy
