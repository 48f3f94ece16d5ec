/-
  DAYS OF RULES, WALKED: whether a day is right.
-/
import Derived.Test.YtefcjccapekjdaaDoorCv
import Derived.Test.YtefcjccapekjdaaDoorQe
import Derived.BigQuiet
namespace Go.Proofs.YtefcjccapekjdaaDoor.Dy
open Go.ChangeShapes Go.WideShapes Go.ChangeAt Go.RowKit
open Go.Proofs.YtefcjccapekjdaaDoor
open Go.Proofs.YtefcjccapekjdaaDoor.Wd (Blk)
open Go.Proofs.YtefcjccapekjdaaDoor.Civ (Tab ret_int ret_two len_any days_any wd_any of_any dateV dateE len_of len_off num_on)
set_option linter.unusedVariables false
abbrev dayV (k n dw : Int) : Value := .agg #[.int .u8 k, .int .i64 n, .int .i64 dw]
def dLo (k : Int) : Int := if k = 1 then 0 else 1
def dHi (k : Int) : Int := if k = 1 then 0 else 31
def dDs (k : Int) : Int := if k = 0 then 0 else 6
def dOk (k n dw : Int) : Bool := decide (k ≤ 3 ∧ dLo k ≤ n ∧ n ≤ dHi k ∧ 0 ≤ dw ∧ dw ≤ dDs k)
def dE (k n dw : Int) : Int := if dOk k n dw = true then 0 else 2
theorem dE_no {k n dw : Int} (h : ¬ (k ≤ 3 ∧ dLo k ≤ n ∧ n ≤ dHi k ∧ 0 ≤ dw ∧ dw ≤ dDs k)) : dE k n dw = 2 := by
  unfold dE dOk; rw [if_neg (by simpa using h)]
theorem dE_yes {k n dw : Int} (h : k ≤ 3 ∧ dLo k ≤ n ∧ n ≤ dHi k ∧ 0 ≤ dw ∧ dw ≤ dDs k) : dE k n dw = 0 := by
  unfold dE dOk; rw [if_pos (by simpa using h)]
theorem d_box (w : World) (u : Array Value) : Below w.heap.size w (w.alloc (.cells u 93)) := (Below.refl _ _).alloc (Nat.le_refl _) _
set_option maxHeartbeats 1600000 in
theorem dchk_any (k n dw : Int) (w : World) (hk : 0 ≤ k) :
    Calls Tryd.prog 116 #[dayV k n dw] w fun e w' => e = .returned (.int .i64 (dE k n dw)) ∧ Below w.heap.size w w' := by
  have hb := d_box w #[.int .u8 k, .int .i64 n, .int .i64 dw]
  by_cases h4 : 3 < k
  · have HE := Lib.hid (dE_no (k := k) (n := n) (dw := dw) (by omega))
    have e0 : (k == 0) = false := by rw [beq_eq_false_iff_ne]; omega
    have e1 : (k == 1) = false := by rw [beq_eq_false_iff_ne]; omega
    have e2 : (k == 2) = false := by rw [beq_eq_false_iff_ne]; omega
    have e3 : (k == 3) = false := by rw [beq_eq_false_iff_ne]; omega
    clear h4 hk
    go_enter Tryd.func116, Tryd.ntmps116
    go_wp2
    go_ret
    exact ⟨ret_int HE.out.symm, hb⟩
  · have hkk : k = 0 ∨ k = 1 ∨ k = 2 ∨ k = 3 := by omega
    clear h4 hk
    rcases hkk with rfl | rfl | rfl | rfl
    · have HE0 := Lib.hid (@dE_no 0 n dw)
      have HE1 := Lib.hid (@dE_yes 0 n dw)
      have el : dLo 0 = 1 := by decide
      have eh : dHi 0 = 31 := by decide
      have es : dDs 0 = 0 := by decide
      have hc : n < 1 ∨ (¬ n < 1 ∧ 31 < n) ∨ (¬ n < 1 ∧ ¬ 31 < n ∧ dw < 0) ∨ (¬ n < 1 ∧ ¬ 31 < n ∧ ¬ dw < 0 ∧ 0 < dw) ∨ (¬ n < 1 ∧ ¬ 31 < n ∧ ¬ dw < 0 ∧ ¬ 0 < dw) := by omega
      rcases hc with h1 | ⟨h1, h2⟩ | ⟨h1, h2, h3⟩ | ⟨h1, h2, h3, h4⟩ | ⟨h1, h2, h3, h4⟩
      · have HE := Lib.hid (HE0.out (by rw [el, eh, es]; omega))
        clear HE0 HE1 el eh es
        go_enter Tryd.func116, Tryd.ntmps116
        go_wp2
        go_ret
        exact ⟨ret_int HE.out.symm, hb⟩
      · have HE := Lib.hid (HE0.out (by rw [el, eh, es]; omega))
        clear HE0 HE1 el eh es
        go_enter Tryd.func116, Tryd.ntmps116
        go_wp2
        go_ret
        exact ⟨ret_int HE.out.symm, hb⟩
      · have HE := Lib.hid (HE0.out (by rw [el, eh, es]; omega))
        clear HE0 HE1 el eh es
        go_enter Tryd.func116, Tryd.ntmps116
        go_wp2
        go_ret
        exact ⟨ret_int HE.out.symm, hb⟩
      · have HE := Lib.hid (HE0.out (by rw [el, eh, es]; omega))
        clear HE0 HE1 el eh es
        go_enter Tryd.func116, Tryd.ntmps116
        go_wp2
        go_ret
        exact ⟨ret_int HE.out.symm, hb⟩
      · have HE := Lib.hid (HE1.out (by rw [el, eh, es]; omega))
        clear HE0 HE1 el eh es
        go_enter Tryd.func116, Tryd.ntmps116
        go_wp2
        go_ret
        exact ⟨ret_int HE.out.symm, hb⟩
    · have HE0 := Lib.hid (@dE_no 1 n dw)
      have HE1 := Lib.hid (@dE_yes 1 n dw)
      have el : dLo 1 = 0 := by decide
      have eh : dHi 1 = 0 := by decide
      have es : dDs 1 = 6 := by decide
      have hc : n < 0 ∨ (¬ n < 0 ∧ 0 < n) ∨ (¬ n < 0 ∧ ¬ 0 < n ∧ dw < 0) ∨ (¬ n < 0 ∧ ¬ 0 < n ∧ ¬ dw < 0 ∧ 6 < dw) ∨ (¬ n < 0 ∧ ¬ 0 < n ∧ ¬ dw < 0 ∧ ¬ 6 < dw) := by omega
      rcases hc with h1 | ⟨h1, h2⟩ | ⟨h1, h2, h3⟩ | ⟨h1, h2, h3, h4⟩ | ⟨h1, h2, h3, h4⟩
      · have HE := Lib.hid (HE0.out (by rw [el, eh, es]; omega))
        clear HE0 HE1 el eh es
        go_enter Tryd.func116, Tryd.ntmps116
        go_wp2
        go_ret
        exact ⟨ret_int HE.out.symm, hb⟩
      · have HE := Lib.hid (HE0.out (by rw [el, eh, es]; omega))
        clear HE0 HE1 el eh es
        go_enter Tryd.func116, Tryd.ntmps116
        go_wp2
        go_ret
        exact ⟨ret_int HE.out.symm, hb⟩
      · have HE := Lib.hid (HE0.out (by rw [el, eh, es]; omega))
        clear HE0 HE1 el eh es
        go_enter Tryd.func116, Tryd.ntmps116
        go_wp2
        go_ret
        exact ⟨ret_int HE.out.symm, hb⟩
      · have HE := Lib.hid (HE0.out (by rw [el, eh, es]; omega))
        clear HE0 HE1 el eh es
        go_enter Tryd.func116, Tryd.ntmps116
        go_wp2
        go_ret
        exact ⟨ret_int HE.out.symm, hb⟩
      · have HE := Lib.hid (HE1.out (by rw [el, eh, es]; omega))
        clear HE0 HE1 el eh es
        go_enter Tryd.func116, Tryd.ntmps116
        go_wp2
        go_ret
        exact ⟨ret_int HE.out.symm, hb⟩
    · have HE0 := Lib.hid (@dE_no 2 n dw)
      have HE1 := Lib.hid (@dE_yes 2 n dw)
      have el : dLo 2 = 1 := by decide
      have eh : dHi 2 = 31 := by decide
      have es : dDs 2 = 6 := by decide
      have hc : n < 1 ∨ (¬ n < 1 ∧ 31 < n) ∨ (¬ n < 1 ∧ ¬ 31 < n ∧ dw < 0) ∨ (¬ n < 1 ∧ ¬ 31 < n ∧ ¬ dw < 0 ∧ 6 < dw) ∨ (¬ n < 1 ∧ ¬ 31 < n ∧ ¬ dw < 0 ∧ ¬ 6 < dw) := by omega
      rcases hc with h1 | ⟨h1, h2⟩ | ⟨h1, h2, h3⟩ | ⟨h1, h2, h3, h4⟩ | ⟨h1, h2, h3, h4⟩
      · have HE := Lib.hid (HE0.out (by rw [el, eh, es]; omega))
        clear HE0 HE1 el eh es
        go_enter Tryd.func116, Tryd.ntmps116
        go_wp2
        go_ret
        exact ⟨ret_int HE.out.symm, hb⟩
      · have HE := Lib.hid (HE0.out (by rw [el, eh, es]; omega))
        clear HE0 HE1 el eh es
        go_enter Tryd.func116, Tryd.ntmps116
        go_wp2
        go_ret
        exact ⟨ret_int HE.out.symm, hb⟩
      · have HE := Lib.hid (HE0.out (by rw [el, eh, es]; omega))
        clear HE0 HE1 el eh es
        go_enter Tryd.func116, Tryd.ntmps116
        go_wp2
        go_ret
        exact ⟨ret_int HE.out.symm, hb⟩
      · have HE := Lib.hid (HE0.out (by rw [el, eh, es]; omega))
        clear HE0 HE1 el eh es
        go_enter Tryd.func116, Tryd.ntmps116
        go_wp2
        go_ret
        exact ⟨ret_int HE.out.symm, hb⟩
      · have HE := Lib.hid (HE1.out (by rw [el, eh, es]; omega))
        clear HE0 HE1 el eh es
        go_enter Tryd.func116, Tryd.ntmps116
        go_wp2
        go_ret
        exact ⟨ret_int HE.out.symm, hb⟩
    · have HE0 := Lib.hid (@dE_no 3 n dw)
      have HE1 := Lib.hid (@dE_yes 3 n dw)
      have el : dLo 3 = 1 := by decide
      have eh : dHi 3 = 31 := by decide
      have es : dDs 3 = 6 := by decide
      have hc : n < 1 ∨ (¬ n < 1 ∧ 31 < n) ∨ (¬ n < 1 ∧ ¬ 31 < n ∧ dw < 0) ∨ (¬ n < 1 ∧ ¬ 31 < n ∧ ¬ dw < 0 ∧ 6 < dw) ∨ (¬ n < 1 ∧ ¬ 31 < n ∧ ¬ dw < 0 ∧ ¬ 6 < dw) := by omega
      rcases hc with h1 | ⟨h1, h2⟩ | ⟨h1, h2, h3⟩ | ⟨h1, h2, h3, h4⟩ | ⟨h1, h2, h3, h4⟩
      · have HE := Lib.hid (HE0.out (by rw [el, eh, es]; omega))
        clear HE0 HE1 el eh es
        go_enter Tryd.func116, Tryd.ntmps116
        go_wp2
        go_ret
        exact ⟨ret_int HE.out.symm, hb⟩
      · have HE := Lib.hid (HE0.out (by rw [el, eh, es]; omega))
        clear HE0 HE1 el eh es
        go_enter Tryd.func116, Tryd.ntmps116
        go_wp2
        go_ret
        exact ⟨ret_int HE.out.symm, hb⟩
      · have HE := Lib.hid (HE0.out (by rw [el, eh, es]; omega))
        clear HE0 HE1 el eh es
        go_enter Tryd.func116, Tryd.ntmps116
        go_wp2
        go_ret
        exact ⟨ret_int HE.out.symm, hb⟩
      · have HE := Lib.hid (HE0.out (by rw [el, eh, es]; omega))
        clear HE0 HE1 el eh es
        go_enter Tryd.func116, Tryd.ntmps116
        go_wp2
        go_ret
        exact ⟨ret_int HE.out.symm, hb⟩
      · have HE := Lib.hid (HE1.out (by rw [el, eh, es]; omega))
        clear HE0 HE1 el eh es
        go_enter Tryd.func116, Tryd.ntmps116
        go_wp2
        go_ret
        exact ⟨ret_int HE.out.symm, hb⟩
end Go.Proofs.YtefcjccapekjdaaDoor.Dy
