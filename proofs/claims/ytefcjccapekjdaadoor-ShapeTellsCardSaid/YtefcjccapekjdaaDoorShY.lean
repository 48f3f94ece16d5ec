/-
  THE REFERENCE OF SHAPES, walked: a day's check, the stamp of a rule.
-/
import Derived.Test.YtefcjccapekjdaaDoorShX
namespace Go.Proofs.YtefcjccapekjdaaDoor.Sh
open Go.ChangeShapes Go.WideShapes Go.ChangeAt Go.RowKit
open Go.Proofs.YtefcjccapekjdaaDoor
open Go.Proofs.YtefcjccapekjdaaDoor.Wd
open Go.Proofs.YtefcjccapekjdaaDoor.Rec
open Go.Proofs.YtefcjccapekjdaaDoor.Yr
open Go.Proofs.YtefcjccapekjdaaDoor.Tb
open Go.Proofs.YtefcjccapekjdaaDoor.Civ (Tab Inv ret_int)
open Go.Proofs.YtefcjccapekjdaaDoor.Dy
set_option linter.unusedVariables false
set_option linter.unusedSimpArgs false
set_option maxHeartbeats 6400000 in
theorem rdchk_any (k n dw : Int) (w : World) (hk : 0 ≤ k) :
    Calls Tryd.prog 118 #[dayV k n dw] w fun e w' => e = .returned (.int .i64 (dE k n dw)) ∧ Below w.heap.size w w' := by
  have hb := d_box w #[.int .u8 k, .int .i64 n, .int .i64 dw]
  have hn : (¬ 1 ≤ n ∧ n ≠ 0) ∨ n = 0 ∨ (1 ≤ n ∧ n ≤ 31) ∨ (1 ≤ n ∧ ¬ n ≤ 31) := by omega
  have hd : (¬ 0 ≤ dw ∧ dw ≠ 0) ∨ dw = 0 ∨ (0 ≤ dw ∧ dw ≤ 6 ∧ dw ≠ 0) ∨ (0 ≤ dw ∧ ¬ dw ≤ 6 ∧ dw ≠ 0) := by omega
  by_cases h4 : 3 < k
  · have HE := Lib.hid (dE_no (k := k) (n := n) (dw := dw) (by omega))
    have e0 : (k == 0) = false := by rw [beq_eq_false_iff_ne]; omega
    have e1 : (k == 1) = false := by rw [beq_eq_false_iff_ne]; omega
    have e2 : (k == 2) = false := by rw [beq_eq_false_iff_ne]; omega
    have e3 : (k == 3) = false := by rw [beq_eq_false_iff_ne]; omega
    clear h4 hk
    rcases hn with ⟨n1, _⟩ | rfl | ⟨n1, n2⟩ | ⟨n1, n2⟩ <;> rcases hd with ⟨d1, _⟩ | rfl | ⟨d1, d2, _⟩ | ⟨d1, d2, _⟩
    all_goals
      go_enter Tryd.func118, Tryd.ntmps118
      go_wp2
      go_ret
      exact ⟨ret_int HE.out.symm, hb⟩
  · have hkk : k = 0 ∨ k = 1 ∨ k = 2 ∨ k = 3 := by omega
    clear h4 hk
    have fin : ∀ (k n dw v : Int), (v = 0 ∧ (k ≤ 3 ∧ dLo k ≤ n ∧ n ≤ dHi k ∧ 0 ≤ dw ∧ dw ≤ dDs k)) ∨ (v = 2 ∧ ¬ (k ≤ 3 ∧ dLo k ≤ n ∧ n ≤ dHi k ∧ 0 ≤ dw ∧ dw ≤ dDs k)) → dE k n dw = v := by
      intro k n dw v h
      rcases h with ⟨rfl, h⟩ | ⟨rfl, h⟩
      · exact dE_yes h
      · exact dE_no h
    have FIN := Lib.hid fin; clear fin
    rcases hkk with rfl | rfl | rfl | rfl <;> rcases hn with ⟨n1, n0⟩ | rfl | ⟨n1, n2⟩ | ⟨n1, n2⟩ <;> rcases hd with ⟨d1, d0⟩ | rfl | ⟨d1, d2, d0⟩ | ⟨d1, d2, d0⟩
    · have HE := Lib.hid (FIN.out 0 n dw 2 (.inr ⟨rfl, by rw [show dLo 0 = 1 from rfl, show dHi 0 = 31 from rfl, show dDs 0 = 0 from rfl]; omega⟩))
      have f0 : (n == 0) = false := by rw [beq_eq_false_iff_ne]; omega
      have g0 : (dw == 0) = false := by rw [beq_eq_false_iff_ne]; omega
      go_enter Tryd.func118, Tryd.ntmps118
      go_wp2
      go_ret
      exact ⟨ret_int HE.out.symm, hb⟩
    · have HE := Lib.hid (FIN.out 0 n 0 2 (.inr ⟨rfl, by rw [show dLo 0 = 1 from rfl, show dHi 0 = 31 from rfl, show dDs 0 = 0 from rfl]; omega⟩))
      have f0 : (n == 0) = false := by rw [beq_eq_false_iff_ne]; omega
      go_enter Tryd.func118, Tryd.ntmps118
      go_wp2
      go_ret
      exact ⟨ret_int HE.out.symm, hb⟩
    · have HE := Lib.hid (FIN.out 0 n dw 2 (.inr ⟨rfl, by rw [show dLo 0 = 1 from rfl, show dHi 0 = 31 from rfl, show dDs 0 = 0 from rfl]; omega⟩))
      have f0 : (n == 0) = false := by rw [beq_eq_false_iff_ne]; omega
      have g0 : (dw == 0) = false := by rw [beq_eq_false_iff_ne]; omega
      go_enter Tryd.func118, Tryd.ntmps118
      go_wp2
      go_ret
      exact ⟨ret_int HE.out.symm, hb⟩
    · have HE := Lib.hid (FIN.out 0 n dw 2 (.inr ⟨rfl, by rw [show dLo 0 = 1 from rfl, show dHi 0 = 31 from rfl, show dDs 0 = 0 from rfl]; omega⟩))
      have f0 : (n == 0) = false := by rw [beq_eq_false_iff_ne]; omega
      have g0 : (dw == 0) = false := by rw [beq_eq_false_iff_ne]; omega
      go_enter Tryd.func118, Tryd.ntmps118
      go_wp2
      go_ret
      exact ⟨ret_int HE.out.symm, hb⟩
    · have HE := Lib.hid (FIN.out 0 0 dw 2 (.inr ⟨rfl, by rw [show dLo 0 = 1 from rfl, show dHi 0 = 31 from rfl, show dDs 0 = 0 from rfl]; omega⟩))
      have g0 : (dw == 0) = false := by rw [beq_eq_false_iff_ne]; omega
      go_enter Tryd.func118, Tryd.ntmps118
      go_wp2
      go_ret
      exact ⟨ret_int HE.out.symm, hb⟩
    · have HE := Lib.hid (FIN.out 0 0 0 2 (.inr ⟨rfl, by rw [show dLo 0 = 1 from rfl, show dHi 0 = 31 from rfl, show dDs 0 = 0 from rfl]; omega⟩))
      go_enter Tryd.func118, Tryd.ntmps118
      go_wp2
      go_ret
      exact ⟨ret_int HE.out.symm, hb⟩
    · have HE := Lib.hid (FIN.out 0 0 dw 2 (.inr ⟨rfl, by rw [show dLo 0 = 1 from rfl, show dHi 0 = 31 from rfl, show dDs 0 = 0 from rfl]; omega⟩))
      have g0 : (dw == 0) = false := by rw [beq_eq_false_iff_ne]; omega
      go_enter Tryd.func118, Tryd.ntmps118
      go_wp2
      go_ret
      exact ⟨ret_int HE.out.symm, hb⟩
    · have HE := Lib.hid (FIN.out 0 0 dw 2 (.inr ⟨rfl, by rw [show dLo 0 = 1 from rfl, show dHi 0 = 31 from rfl, show dDs 0 = 0 from rfl]; omega⟩))
      have g0 : (dw == 0) = false := by rw [beq_eq_false_iff_ne]; omega
      go_enter Tryd.func118, Tryd.ntmps118
      go_wp2
      go_ret
      exact ⟨ret_int HE.out.symm, hb⟩
    · have HE := Lib.hid (FIN.out 0 n dw 2 (.inr ⟨rfl, by rw [show dLo 0 = 1 from rfl, show dHi 0 = 31 from rfl, show dDs 0 = 0 from rfl]; omega⟩))
      have f0 : (n == 0) = false := by rw [beq_eq_false_iff_ne]; omega
      have g0 : (dw == 0) = false := by rw [beq_eq_false_iff_ne]; omega
      go_enter Tryd.func118, Tryd.ntmps118
      go_wp2
      go_ret
      exact ⟨ret_int HE.out.symm, hb⟩
    · have HE := Lib.hid (FIN.out 0 n 0 0 (.inl ⟨rfl, by rw [show dLo 0 = 1 from rfl, show dHi 0 = 31 from rfl, show dDs 0 = 0 from rfl]; omega⟩))
      have f0 : (n == 0) = false := by rw [beq_eq_false_iff_ne]; omega
      go_enter Tryd.func118, Tryd.ntmps118
      go_wp2
      go_ret
      exact ⟨ret_int HE.out.symm, hb⟩
    · have HE := Lib.hid (FIN.out 0 n dw 2 (.inr ⟨rfl, by rw [show dLo 0 = 1 from rfl, show dHi 0 = 31 from rfl, show dDs 0 = 0 from rfl]; omega⟩))
      have f0 : (n == 0) = false := by rw [beq_eq_false_iff_ne]; omega
      have g0 : (dw == 0) = false := by rw [beq_eq_false_iff_ne]; omega
      go_enter Tryd.func118, Tryd.ntmps118
      go_wp2
      go_ret
      exact ⟨ret_int HE.out.symm, hb⟩
    · have HE := Lib.hid (FIN.out 0 n dw 2 (.inr ⟨rfl, by rw [show dLo 0 = 1 from rfl, show dHi 0 = 31 from rfl, show dDs 0 = 0 from rfl]; omega⟩))
      have f0 : (n == 0) = false := by rw [beq_eq_false_iff_ne]; omega
      have g0 : (dw == 0) = false := by rw [beq_eq_false_iff_ne]; omega
      go_enter Tryd.func118, Tryd.ntmps118
      go_wp2
      go_ret
      exact ⟨ret_int HE.out.symm, hb⟩
    · have HE := Lib.hid (FIN.out 0 n dw 2 (.inr ⟨rfl, by rw [show dLo 0 = 1 from rfl, show dHi 0 = 31 from rfl, show dDs 0 = 0 from rfl]; omega⟩))
      have f0 : (n == 0) = false := by rw [beq_eq_false_iff_ne]; omega
      have g0 : (dw == 0) = false := by rw [beq_eq_false_iff_ne]; omega
      go_enter Tryd.func118, Tryd.ntmps118
      go_wp2
      go_ret
      exact ⟨ret_int HE.out.symm, hb⟩
    · have HE := Lib.hid (FIN.out 0 n 0 2 (.inr ⟨rfl, by rw [show dLo 0 = 1 from rfl, show dHi 0 = 31 from rfl, show dDs 0 = 0 from rfl]; omega⟩))
      have f0 : (n == 0) = false := by rw [beq_eq_false_iff_ne]; omega
      go_enter Tryd.func118, Tryd.ntmps118
      go_wp2
      go_ret
      exact ⟨ret_int HE.out.symm, hb⟩
    · have HE := Lib.hid (FIN.out 0 n dw 2 (.inr ⟨rfl, by rw [show dLo 0 = 1 from rfl, show dHi 0 = 31 from rfl, show dDs 0 = 0 from rfl]; omega⟩))
      have f0 : (n == 0) = false := by rw [beq_eq_false_iff_ne]; omega
      have g0 : (dw == 0) = false := by rw [beq_eq_false_iff_ne]; omega
      go_enter Tryd.func118, Tryd.ntmps118
      go_wp2
      go_ret
      exact ⟨ret_int HE.out.symm, hb⟩
    · have HE := Lib.hid (FIN.out 0 n dw 2 (.inr ⟨rfl, by rw [show dLo 0 = 1 from rfl, show dHi 0 = 31 from rfl, show dDs 0 = 0 from rfl]; omega⟩))
      have f0 : (n == 0) = false := by rw [beq_eq_false_iff_ne]; omega
      have g0 : (dw == 0) = false := by rw [beq_eq_false_iff_ne]; omega
      go_enter Tryd.func118, Tryd.ntmps118
      go_wp2
      go_ret
      exact ⟨ret_int HE.out.symm, hb⟩
    · have HE := Lib.hid (FIN.out 1 n dw 2 (.inr ⟨rfl, by rw [show dLo 1 = 0 from rfl, show dHi 1 = 0 from rfl, show dDs 1 = 6 from rfl]; omega⟩))
      have f0 : (n == 0) = false := by rw [beq_eq_false_iff_ne]; omega
      have g0 : (dw == 0) = false := by rw [beq_eq_false_iff_ne]; omega
      go_enter Tryd.func118, Tryd.ntmps118
      go_wp2
      go_ret
      exact ⟨ret_int HE.out.symm, hb⟩
    · have HE := Lib.hid (FIN.out 1 n 0 2 (.inr ⟨rfl, by rw [show dLo 1 = 0 from rfl, show dHi 1 = 0 from rfl, show dDs 1 = 6 from rfl]; omega⟩))
      have f0 : (n == 0) = false := by rw [beq_eq_false_iff_ne]; omega
      go_enter Tryd.func118, Tryd.ntmps118
      go_wp2
      go_ret
      exact ⟨ret_int HE.out.symm, hb⟩
    · have HE := Lib.hid (FIN.out 1 n dw 2 (.inr ⟨rfl, by rw [show dLo 1 = 0 from rfl, show dHi 1 = 0 from rfl, show dDs 1 = 6 from rfl]; omega⟩))
      have f0 : (n == 0) = false := by rw [beq_eq_false_iff_ne]; omega
      have g0 : (dw == 0) = false := by rw [beq_eq_false_iff_ne]; omega
      go_enter Tryd.func118, Tryd.ntmps118
      go_wp2
      go_ret
      exact ⟨ret_int HE.out.symm, hb⟩
    · have HE := Lib.hid (FIN.out 1 n dw 2 (.inr ⟨rfl, by rw [show dLo 1 = 0 from rfl, show dHi 1 = 0 from rfl, show dDs 1 = 6 from rfl]; omega⟩))
      have f0 : (n == 0) = false := by rw [beq_eq_false_iff_ne]; omega
      have g0 : (dw == 0) = false := by rw [beq_eq_false_iff_ne]; omega
      go_enter Tryd.func118, Tryd.ntmps118
      go_wp2
      go_ret
      exact ⟨ret_int HE.out.symm, hb⟩
    · have HE := Lib.hid (FIN.out 1 0 dw 2 (.inr ⟨rfl, by rw [show dLo 1 = 0 from rfl, show dHi 1 = 0 from rfl, show dDs 1 = 6 from rfl]; omega⟩))
      have g0 : (dw == 0) = false := by rw [beq_eq_false_iff_ne]; omega
      go_enter Tryd.func118, Tryd.ntmps118
      go_wp2
      go_ret
      exact ⟨ret_int HE.out.symm, hb⟩
    · have HE := Lib.hid (FIN.out 1 0 0 0 (.inl ⟨rfl, by rw [show dLo 1 = 0 from rfl, show dHi 1 = 0 from rfl, show dDs 1 = 6 from rfl]; omega⟩))
      go_enter Tryd.func118, Tryd.ntmps118
      go_wp2
      go_ret
      exact ⟨ret_int HE.out.symm, hb⟩
    · have HE := Lib.hid (FIN.out 1 0 dw 0 (.inl ⟨rfl, by rw [show dLo 1 = 0 from rfl, show dHi 1 = 0 from rfl, show dDs 1 = 6 from rfl]; omega⟩))
      have g0 : (dw == 0) = false := by rw [beq_eq_false_iff_ne]; omega
      go_enter Tryd.func118, Tryd.ntmps118
      go_wp2
      go_ret
      exact ⟨ret_int HE.out.symm, hb⟩
    · have HE := Lib.hid (FIN.out 1 0 dw 2 (.inr ⟨rfl, by rw [show dLo 1 = 0 from rfl, show dHi 1 = 0 from rfl, show dDs 1 = 6 from rfl]; omega⟩))
      have g0 : (dw == 0) = false := by rw [beq_eq_false_iff_ne]; omega
      go_enter Tryd.func118, Tryd.ntmps118
      go_wp2
      go_ret
      exact ⟨ret_int HE.out.symm, hb⟩
    · have HE := Lib.hid (FIN.out 1 n dw 2 (.inr ⟨rfl, by rw [show dLo 1 = 0 from rfl, show dHi 1 = 0 from rfl, show dDs 1 = 6 from rfl]; omega⟩))
      have f0 : (n == 0) = false := by rw [beq_eq_false_iff_ne]; omega
      have g0 : (dw == 0) = false := by rw [beq_eq_false_iff_ne]; omega
      go_enter Tryd.func118, Tryd.ntmps118
      go_wp2
      go_ret
      exact ⟨ret_int HE.out.symm, hb⟩
    · have HE := Lib.hid (FIN.out 1 n 0 2 (.inr ⟨rfl, by rw [show dLo 1 = 0 from rfl, show dHi 1 = 0 from rfl, show dDs 1 = 6 from rfl]; omega⟩))
      have f0 : (n == 0) = false := by rw [beq_eq_false_iff_ne]; omega
      go_enter Tryd.func118, Tryd.ntmps118
      go_wp2
      go_ret
      exact ⟨ret_int HE.out.symm, hb⟩
    · have HE := Lib.hid (FIN.out 1 n dw 2 (.inr ⟨rfl, by rw [show dLo 1 = 0 from rfl, show dHi 1 = 0 from rfl, show dDs 1 = 6 from rfl]; omega⟩))
      have f0 : (n == 0) = false := by rw [beq_eq_false_iff_ne]; omega
      have g0 : (dw == 0) = false := by rw [beq_eq_false_iff_ne]; omega
      go_enter Tryd.func118, Tryd.ntmps118
      go_wp2
      go_ret
      exact ⟨ret_int HE.out.symm, hb⟩
    · have HE := Lib.hid (FIN.out 1 n dw 2 (.inr ⟨rfl, by rw [show dLo 1 = 0 from rfl, show dHi 1 = 0 from rfl, show dDs 1 = 6 from rfl]; omega⟩))
      have f0 : (n == 0) = false := by rw [beq_eq_false_iff_ne]; omega
      have g0 : (dw == 0) = false := by rw [beq_eq_false_iff_ne]; omega
      go_enter Tryd.func118, Tryd.ntmps118
      go_wp2
      go_ret
      exact ⟨ret_int HE.out.symm, hb⟩
    · have HE := Lib.hid (FIN.out 1 n dw 2 (.inr ⟨rfl, by rw [show dLo 1 = 0 from rfl, show dHi 1 = 0 from rfl, show dDs 1 = 6 from rfl]; omega⟩))
      have f0 : (n == 0) = false := by rw [beq_eq_false_iff_ne]; omega
      have g0 : (dw == 0) = false := by rw [beq_eq_false_iff_ne]; omega
      go_enter Tryd.func118, Tryd.ntmps118
      go_wp2
      go_ret
      exact ⟨ret_int HE.out.symm, hb⟩
    · have HE := Lib.hid (FIN.out 1 n 0 2 (.inr ⟨rfl, by rw [show dLo 1 = 0 from rfl, show dHi 1 = 0 from rfl, show dDs 1 = 6 from rfl]; omega⟩))
      have f0 : (n == 0) = false := by rw [beq_eq_false_iff_ne]; omega
      go_enter Tryd.func118, Tryd.ntmps118
      go_wp2
      go_ret
      exact ⟨ret_int HE.out.symm, hb⟩
    · have HE := Lib.hid (FIN.out 1 n dw 2 (.inr ⟨rfl, by rw [show dLo 1 = 0 from rfl, show dHi 1 = 0 from rfl, show dDs 1 = 6 from rfl]; omega⟩))
      have f0 : (n == 0) = false := by rw [beq_eq_false_iff_ne]; omega
      have g0 : (dw == 0) = false := by rw [beq_eq_false_iff_ne]; omega
      go_enter Tryd.func118, Tryd.ntmps118
      go_wp2
      go_ret
      exact ⟨ret_int HE.out.symm, hb⟩
    · have HE := Lib.hid (FIN.out 1 n dw 2 (.inr ⟨rfl, by rw [show dLo 1 = 0 from rfl, show dHi 1 = 0 from rfl, show dDs 1 = 6 from rfl]; omega⟩))
      have f0 : (n == 0) = false := by rw [beq_eq_false_iff_ne]; omega
      have g0 : (dw == 0) = false := by rw [beq_eq_false_iff_ne]; omega
      go_enter Tryd.func118, Tryd.ntmps118
      go_wp2
      go_ret
      exact ⟨ret_int HE.out.symm, hb⟩
    · have HE := Lib.hid (FIN.out 2 n dw 2 (.inr ⟨rfl, by rw [show dLo 2 = 1 from rfl, show dHi 2 = 31 from rfl, show dDs 2 = 6 from rfl]; omega⟩))
      have f0 : (n == 0) = false := by rw [beq_eq_false_iff_ne]; omega
      have g0 : (dw == 0) = false := by rw [beq_eq_false_iff_ne]; omega
      go_enter Tryd.func118, Tryd.ntmps118
      go_wp2
      go_ret
      exact ⟨ret_int HE.out.symm, hb⟩
    · have HE := Lib.hid (FIN.out 2 n 0 2 (.inr ⟨rfl, by rw [show dLo 2 = 1 from rfl, show dHi 2 = 31 from rfl, show dDs 2 = 6 from rfl]; omega⟩))
      have f0 : (n == 0) = false := by rw [beq_eq_false_iff_ne]; omega
      go_enter Tryd.func118, Tryd.ntmps118
      go_wp2
      go_ret
      exact ⟨ret_int HE.out.symm, hb⟩
    · have HE := Lib.hid (FIN.out 2 n dw 2 (.inr ⟨rfl, by rw [show dLo 2 = 1 from rfl, show dHi 2 = 31 from rfl, show dDs 2 = 6 from rfl]; omega⟩))
      have f0 : (n == 0) = false := by rw [beq_eq_false_iff_ne]; omega
      have g0 : (dw == 0) = false := by rw [beq_eq_false_iff_ne]; omega
      go_enter Tryd.func118, Tryd.ntmps118
      go_wp2
      go_ret
      exact ⟨ret_int HE.out.symm, hb⟩
    · have HE := Lib.hid (FIN.out 2 n dw 2 (.inr ⟨rfl, by rw [show dLo 2 = 1 from rfl, show dHi 2 = 31 from rfl, show dDs 2 = 6 from rfl]; omega⟩))
      have f0 : (n == 0) = false := by rw [beq_eq_false_iff_ne]; omega
      have g0 : (dw == 0) = false := by rw [beq_eq_false_iff_ne]; omega
      go_enter Tryd.func118, Tryd.ntmps118
      go_wp2
      go_ret
      exact ⟨ret_int HE.out.symm, hb⟩
    · have HE := Lib.hid (FIN.out 2 0 dw 2 (.inr ⟨rfl, by rw [show dLo 2 = 1 from rfl, show dHi 2 = 31 from rfl, show dDs 2 = 6 from rfl]; omega⟩))
      have g0 : (dw == 0) = false := by rw [beq_eq_false_iff_ne]; omega
      go_enter Tryd.func118, Tryd.ntmps118
      go_wp2
      go_ret
      exact ⟨ret_int HE.out.symm, hb⟩
    · have HE := Lib.hid (FIN.out 2 0 0 2 (.inr ⟨rfl, by rw [show dLo 2 = 1 from rfl, show dHi 2 = 31 from rfl, show dDs 2 = 6 from rfl]; omega⟩))
      go_enter Tryd.func118, Tryd.ntmps118
      go_wp2
      go_ret
      exact ⟨ret_int HE.out.symm, hb⟩
    · have HE := Lib.hid (FIN.out 2 0 dw 2 (.inr ⟨rfl, by rw [show dLo 2 = 1 from rfl, show dHi 2 = 31 from rfl, show dDs 2 = 6 from rfl]; omega⟩))
      have g0 : (dw == 0) = false := by rw [beq_eq_false_iff_ne]; omega
      go_enter Tryd.func118, Tryd.ntmps118
      go_wp2
      go_ret
      exact ⟨ret_int HE.out.symm, hb⟩
    · have HE := Lib.hid (FIN.out 2 0 dw 2 (.inr ⟨rfl, by rw [show dLo 2 = 1 from rfl, show dHi 2 = 31 from rfl, show dDs 2 = 6 from rfl]; omega⟩))
      have g0 : (dw == 0) = false := by rw [beq_eq_false_iff_ne]; omega
      go_enter Tryd.func118, Tryd.ntmps118
      go_wp2
      go_ret
      exact ⟨ret_int HE.out.symm, hb⟩
    · have HE := Lib.hid (FIN.out 2 n dw 2 (.inr ⟨rfl, by rw [show dLo 2 = 1 from rfl, show dHi 2 = 31 from rfl, show dDs 2 = 6 from rfl]; omega⟩))
      have f0 : (n == 0) = false := by rw [beq_eq_false_iff_ne]; omega
      have g0 : (dw == 0) = false := by rw [beq_eq_false_iff_ne]; omega
      go_enter Tryd.func118, Tryd.ntmps118
      go_wp2
      go_ret
      exact ⟨ret_int HE.out.symm, hb⟩
    · have HE := Lib.hid (FIN.out 2 n 0 0 (.inl ⟨rfl, by rw [show dLo 2 = 1 from rfl, show dHi 2 = 31 from rfl, show dDs 2 = 6 from rfl]; omega⟩))
      have f0 : (n == 0) = false := by rw [beq_eq_false_iff_ne]; omega
      go_enter Tryd.func118, Tryd.ntmps118
      go_wp2
      go_ret
      exact ⟨ret_int HE.out.symm, hb⟩
    · have HE := Lib.hid (FIN.out 2 n dw 0 (.inl ⟨rfl, by rw [show dLo 2 = 1 from rfl, show dHi 2 = 31 from rfl, show dDs 2 = 6 from rfl]; omega⟩))
      have f0 : (n == 0) = false := by rw [beq_eq_false_iff_ne]; omega
      have g0 : (dw == 0) = false := by rw [beq_eq_false_iff_ne]; omega
      go_enter Tryd.func118, Tryd.ntmps118
      go_wp2
      go_ret
      exact ⟨ret_int HE.out.symm, hb⟩
    · have HE := Lib.hid (FIN.out 2 n dw 2 (.inr ⟨rfl, by rw [show dLo 2 = 1 from rfl, show dHi 2 = 31 from rfl, show dDs 2 = 6 from rfl]; omega⟩))
      have f0 : (n == 0) = false := by rw [beq_eq_false_iff_ne]; omega
      have g0 : (dw == 0) = false := by rw [beq_eq_false_iff_ne]; omega
      go_enter Tryd.func118, Tryd.ntmps118
      go_wp2
      go_ret
      exact ⟨ret_int HE.out.symm, hb⟩
    · have HE := Lib.hid (FIN.out 2 n dw 2 (.inr ⟨rfl, by rw [show dLo 2 = 1 from rfl, show dHi 2 = 31 from rfl, show dDs 2 = 6 from rfl]; omega⟩))
      have f0 : (n == 0) = false := by rw [beq_eq_false_iff_ne]; omega
      have g0 : (dw == 0) = false := by rw [beq_eq_false_iff_ne]; omega
      go_enter Tryd.func118, Tryd.ntmps118
      go_wp2
      go_ret
      exact ⟨ret_int HE.out.symm, hb⟩
    · have HE := Lib.hid (FIN.out 2 n 0 2 (.inr ⟨rfl, by rw [show dLo 2 = 1 from rfl, show dHi 2 = 31 from rfl, show dDs 2 = 6 from rfl]; omega⟩))
      have f0 : (n == 0) = false := by rw [beq_eq_false_iff_ne]; omega
      go_enter Tryd.func118, Tryd.ntmps118
      go_wp2
      go_ret
      exact ⟨ret_int HE.out.symm, hb⟩
    · have HE := Lib.hid (FIN.out 2 n dw 2 (.inr ⟨rfl, by rw [show dLo 2 = 1 from rfl, show dHi 2 = 31 from rfl, show dDs 2 = 6 from rfl]; omega⟩))
      have f0 : (n == 0) = false := by rw [beq_eq_false_iff_ne]; omega
      have g0 : (dw == 0) = false := by rw [beq_eq_false_iff_ne]; omega
      go_enter Tryd.func118, Tryd.ntmps118
      go_wp2
      go_ret
      exact ⟨ret_int HE.out.symm, hb⟩
    · have HE := Lib.hid (FIN.out 2 n dw 2 (.inr ⟨rfl, by rw [show dLo 2 = 1 from rfl, show dHi 2 = 31 from rfl, show dDs 2 = 6 from rfl]; omega⟩))
      have f0 : (n == 0) = false := by rw [beq_eq_false_iff_ne]; omega
      have g0 : (dw == 0) = false := by rw [beq_eq_false_iff_ne]; omega
      go_enter Tryd.func118, Tryd.ntmps118
      go_wp2
      go_ret
      exact ⟨ret_int HE.out.symm, hb⟩
    · have HE := Lib.hid (FIN.out 3 n dw 2 (.inr ⟨rfl, by rw [show dLo 3 = 1 from rfl, show dHi 3 = 31 from rfl, show dDs 3 = 6 from rfl]; omega⟩))
      have f0 : (n == 0) = false := by rw [beq_eq_false_iff_ne]; omega
      have g0 : (dw == 0) = false := by rw [beq_eq_false_iff_ne]; omega
      go_enter Tryd.func118, Tryd.ntmps118
      go_wp2
      go_ret
      exact ⟨ret_int HE.out.symm, hb⟩
    · have HE := Lib.hid (FIN.out 3 n 0 2 (.inr ⟨rfl, by rw [show dLo 3 = 1 from rfl, show dHi 3 = 31 from rfl, show dDs 3 = 6 from rfl]; omega⟩))
      have f0 : (n == 0) = false := by rw [beq_eq_false_iff_ne]; omega
      go_enter Tryd.func118, Tryd.ntmps118
      go_wp2
      go_ret
      exact ⟨ret_int HE.out.symm, hb⟩
    · have HE := Lib.hid (FIN.out 3 n dw 2 (.inr ⟨rfl, by rw [show dLo 3 = 1 from rfl, show dHi 3 = 31 from rfl, show dDs 3 = 6 from rfl]; omega⟩))
      have f0 : (n == 0) = false := by rw [beq_eq_false_iff_ne]; omega
      have g0 : (dw == 0) = false := by rw [beq_eq_false_iff_ne]; omega
      go_enter Tryd.func118, Tryd.ntmps118
      go_wp2
      go_ret
      exact ⟨ret_int HE.out.symm, hb⟩
    · have HE := Lib.hid (FIN.out 3 n dw 2 (.inr ⟨rfl, by rw [show dLo 3 = 1 from rfl, show dHi 3 = 31 from rfl, show dDs 3 = 6 from rfl]; omega⟩))
      have f0 : (n == 0) = false := by rw [beq_eq_false_iff_ne]; omega
      have g0 : (dw == 0) = false := by rw [beq_eq_false_iff_ne]; omega
      go_enter Tryd.func118, Tryd.ntmps118
      go_wp2
      go_ret
      exact ⟨ret_int HE.out.symm, hb⟩
    · have HE := Lib.hid (FIN.out 3 0 dw 2 (.inr ⟨rfl, by rw [show dLo 3 = 1 from rfl, show dHi 3 = 31 from rfl, show dDs 3 = 6 from rfl]; omega⟩))
      have g0 : (dw == 0) = false := by rw [beq_eq_false_iff_ne]; omega
      go_enter Tryd.func118, Tryd.ntmps118
      go_wp2
      go_ret
      exact ⟨ret_int HE.out.symm, hb⟩
    · have HE := Lib.hid (FIN.out 3 0 0 2 (.inr ⟨rfl, by rw [show dLo 3 = 1 from rfl, show dHi 3 = 31 from rfl, show dDs 3 = 6 from rfl]; omega⟩))
      go_enter Tryd.func118, Tryd.ntmps118
      go_wp2
      go_ret
      exact ⟨ret_int HE.out.symm, hb⟩
    · have HE := Lib.hid (FIN.out 3 0 dw 2 (.inr ⟨rfl, by rw [show dLo 3 = 1 from rfl, show dHi 3 = 31 from rfl, show dDs 3 = 6 from rfl]; omega⟩))
      have g0 : (dw == 0) = false := by rw [beq_eq_false_iff_ne]; omega
      go_enter Tryd.func118, Tryd.ntmps118
      go_wp2
      go_ret
      exact ⟨ret_int HE.out.symm, hb⟩
    · have HE := Lib.hid (FIN.out 3 0 dw 2 (.inr ⟨rfl, by rw [show dLo 3 = 1 from rfl, show dHi 3 = 31 from rfl, show dDs 3 = 6 from rfl]; omega⟩))
      have g0 : (dw == 0) = false := by rw [beq_eq_false_iff_ne]; omega
      go_enter Tryd.func118, Tryd.ntmps118
      go_wp2
      go_ret
      exact ⟨ret_int HE.out.symm, hb⟩
    · have HE := Lib.hid (FIN.out 3 n dw 2 (.inr ⟨rfl, by rw [show dLo 3 = 1 from rfl, show dHi 3 = 31 from rfl, show dDs 3 = 6 from rfl]; omega⟩))
      have f0 : (n == 0) = false := by rw [beq_eq_false_iff_ne]; omega
      have g0 : (dw == 0) = false := by rw [beq_eq_false_iff_ne]; omega
      go_enter Tryd.func118, Tryd.ntmps118
      go_wp2
      go_ret
      exact ⟨ret_int HE.out.symm, hb⟩
    · have HE := Lib.hid (FIN.out 3 n 0 0 (.inl ⟨rfl, by rw [show dLo 3 = 1 from rfl, show dHi 3 = 31 from rfl, show dDs 3 = 6 from rfl]; omega⟩))
      have f0 : (n == 0) = false := by rw [beq_eq_false_iff_ne]; omega
      go_enter Tryd.func118, Tryd.ntmps118
      go_wp2
      go_ret
      exact ⟨ret_int HE.out.symm, hb⟩
    · have HE := Lib.hid (FIN.out 3 n dw 0 (.inl ⟨rfl, by rw [show dLo 3 = 1 from rfl, show dHi 3 = 31 from rfl, show dDs 3 = 6 from rfl]; omega⟩))
      have f0 : (n == 0) = false := by rw [beq_eq_false_iff_ne]; omega
      have g0 : (dw == 0) = false := by rw [beq_eq_false_iff_ne]; omega
      go_enter Tryd.func118, Tryd.ntmps118
      go_wp2
      go_ret
      exact ⟨ret_int HE.out.symm, hb⟩
    · have HE := Lib.hid (FIN.out 3 n dw 2 (.inr ⟨rfl, by rw [show dLo 3 = 1 from rfl, show dHi 3 = 31 from rfl, show dDs 3 = 6 from rfl]; omega⟩))
      have f0 : (n == 0) = false := by rw [beq_eq_false_iff_ne]; omega
      have g0 : (dw == 0) = false := by rw [beq_eq_false_iff_ne]; omega
      go_enter Tryd.func118, Tryd.ntmps118
      go_wp2
      go_ret
      exact ⟨ret_int HE.out.symm, hb⟩
    · have HE := Lib.hid (FIN.out 3 n dw 2 (.inr ⟨rfl, by rw [show dLo 3 = 1 from rfl, show dHi 3 = 31 from rfl, show dDs 3 = 6 from rfl]; omega⟩))
      have f0 : (n == 0) = false := by rw [beq_eq_false_iff_ne]; omega
      have g0 : (dw == 0) = false := by rw [beq_eq_false_iff_ne]; omega
      go_enter Tryd.func118, Tryd.ntmps118
      go_wp2
      go_ret
      exact ⟨ret_int HE.out.symm, hb⟩
    · have HE := Lib.hid (FIN.out 3 n 0 2 (.inr ⟨rfl, by rw [show dLo 3 = 1 from rfl, show dHi 3 = 31 from rfl, show dDs 3 = 6 from rfl]; omega⟩))
      have f0 : (n == 0) = false := by rw [beq_eq_false_iff_ne]; omega
      go_enter Tryd.func118, Tryd.ntmps118
      go_wp2
      go_ret
      exact ⟨ret_int HE.out.symm, hb⟩
    · have HE := Lib.hid (FIN.out 3 n dw 2 (.inr ⟨rfl, by rw [show dLo 3 = 1 from rfl, show dHi 3 = 31 from rfl, show dDs 3 = 6 from rfl]; omega⟩))
      have f0 : (n == 0) = false := by rw [beq_eq_false_iff_ne]; omega
      have g0 : (dw == 0) = false := by rw [beq_eq_false_iff_ne]; omega
      go_enter Tryd.func118, Tryd.ntmps118
      go_wp2
      go_ret
      exact ⟨ret_int HE.out.symm, hb⟩
    · have HE := Lib.hid (FIN.out 3 n dw 2 (.inr ⟨rfl, by rw [show dLo 3 = 1 from rfl, show dHi 3 = 31 from rfl, show dDs 3 = 6 from rfl]; omega⟩))
      have f0 : (n == 0) = false := by rw [beq_eq_false_iff_ne]; omega
      have g0 : (dw == 0) = false := by rw [beq_eq_false_iff_ne]; omega
      go_enter Tryd.func118, Tryd.ntmps118
      go_wp2
      go_ret
      exact ⟨ret_int HE.out.symm, hb⟩
set_option maxRecDepth 100000 in
set_option maxHeartbeats 6400000 in
theorem rrule_bad (k n dw m s : Int) (w : World) (hk : 0 ≤ k) (hE : dE k n dw = 2) :
    Calls Tryd.prog 66 #[dayV k n dw, .int .i64 m, .int .i64 s] w fun e w' => e = .returned (.tuple #[.agg (sA St.nil), .bool false]) ∧ Below w.heap.size w w' := by
  have b0 := ((Below.refl w.heap.size w).alloc (Nat.le_refl _) (.cells #[.int .u8 k, .int .i64 n, .int .i64 dw] 93)).alloc (by simp) (.cells #[.int .u16 0, .int .u16 0, .int .u16 0, .int .u16 0, .int .u16 0, .int .u16 0, .int .u16 0, .int .u16 0] 24)
  have d0 := (Blk.new w 93 #[.int .u8 k, .int .i64 n, .int .i64 dw]).alloc (.cells #[.int .u16 0, .int .u16 0, .int .u16 0, .int .u16 0, .int .u16 0, .int .u16 0, .int .u16 0, .int .u16 0] 24)
  have z0 := blk_at (w.alloc (.cells #[.int .u8 k, .int .i64 n, .int .i64 dw] 93)) 24 #[.int .u16 0, .int .u16 0, .int .u16 0, .int .u16 0, .int .u16 0, .int .u16 0, .int .u16 0, .int .u16 0] (sz1 w (.cells #[.int .u8 k, .int .i64 n, .int .i64 dw] 93) rfl)
  have hdc := fun w => rdchk_any k n dw w hk
  rw [hE] at hdc; clear hE
  go_enter Tryd.func66, Tryd.ntmps66
  go_wp2_with (refine wpList_row_g rfl 93 _ rfl _ rfl _ _ _ _ d0 Tryd.underlying93 rfl (by kernel_rfl) ?_)
  refine (hdc _).mono ?_; rintro e w1 ⟨rfl, hb1⟩
  have b1 := b0.trans (hb1.mono b0.size)
  have d1 := d0.below hb1 d0.lt
  have z1 := z0.below hb1 z0.lt
  clear b0 d0 z0 hb1 hdc
  go_wp2_with (first | refine wpList_store_g rfl 24 _ _ rfl rfl (w.heap.size + 1) 0 #[.int .u16 0, .int .u16 0, .int .u16 0, .int .u16 0, .int .u16 0, .int .u16 0, .int .u16 0, .int .u16 0] #[.int .u16 0, .int .u16 0, .int .u16 0, .int .u16 0, .int .u16 0, .int .u16 0, .int .u16 0, .int .u16 0] rfl rfl _ _ z1 (by show 0 + 8 ≤ 8; decide) (by kernel_rfl) (by kernel_rfl) (by kernel_rfl) ?_)
  exact bodyPost_ret (res_ct rfl _ _ _ _ (sA St.nil) _ _ rfl rfl (Blk.row z1 _) Tryd.underlying24 rfl (by kernel_rfl)) rfl ⟨rfl, below_row b1 (by omega) _⟩
set_option maxRecDepth 100000 in
set_option maxHeartbeats 6400000 in
theorem rrule_m1 (k n dw m s : Int) (w : World) (hk : 0 ≤ k) (hE : dE k n dw = 0) (h1 : m < 1) :
    Calls Tryd.prog 66 #[dayV k n dw, .int .i64 m, .int .i64 s] w fun e w' => e = .returned (.tuple #[.agg (sA St.nil), .bool false]) ∧ Below w.heap.size w w' := by
  have b0 := ((Below.refl w.heap.size w).alloc (Nat.le_refl _) (.cells #[.int .u8 k, .int .i64 n, .int .i64 dw] 93)).alloc (by simp) (.cells #[.int .u16 0, .int .u16 0, .int .u16 0, .int .u16 0, .int .u16 0, .int .u16 0, .int .u16 0, .int .u16 0] 24)
  have d0 := (Blk.new w 93 #[.int .u8 k, .int .i64 n, .int .i64 dw]).alloc (.cells #[.int .u16 0, .int .u16 0, .int .u16 0, .int .u16 0, .int .u16 0, .int .u16 0, .int .u16 0, .int .u16 0] 24)
  have z0 := blk_at (w.alloc (.cells #[.int .u8 k, .int .i64 n, .int .i64 dw] 93)) 24 #[.int .u16 0, .int .u16 0, .int .u16 0, .int .u16 0, .int .u16 0, .int .u16 0, .int .u16 0, .int .u16 0] (sz1 w (.cells #[.int .u8 k, .int .i64 n, .int .i64 dw] 93) rfl)
  have hdc := fun w => rdchk_any k n dw w hk
  rw [hE] at hdc; clear hE
  go_enter Tryd.func66, Tryd.ntmps66
  go_wp2_with (refine wpList_row_g rfl 93 _ rfl _ rfl _ _ _ _ d0 Tryd.underlying93 rfl (by kernel_rfl) ?_)
  refine (hdc _).mono ?_; rintro e w1 ⟨rfl, hb1⟩
  have b1 := b0.trans (hb1.mono b0.size)
  have d1 := d0.below hb1 d0.lt
  have z1 := z0.below hb1 z0.lt
  clear b0 d0 z0 hb1 hdc
  go_wp2_with (first | refine wpList_store_g rfl 24 _ _ rfl rfl (w.heap.size + 1) 0 #[.int .u16 0, .int .u16 0, .int .u16 0, .int .u16 0, .int .u16 0, .int .u16 0, .int .u16 0, .int .u16 0] #[.int .u16 0, .int .u16 0, .int .u16 0, .int .u16 0, .int .u16 0, .int .u16 0, .int .u16 0, .int .u16 0] rfl rfl _ _ z1 (by show 0 + 8 ≤ 8; decide) (by kernel_rfl) (by kernel_rfl) (by kernel_rfl) ?_)
  exact bodyPost_ret (res_ct rfl _ _ _ _ (sA St.nil) _ _ rfl rfl (Blk.row z1 _) Tryd.underlying24 rfl (by kernel_rfl)) rfl ⟨rfl, below_row b1 (by omega) _⟩
set_option maxRecDepth 100000 in
set_option maxHeartbeats 6400000 in
theorem rrule_m2 (k n dw m s : Int) (w : World) (hk : 0 ≤ k) (hE : dE k n dw = 0) (h1 : ¬ m < 1) (h2 : 12 < m) :
    Calls Tryd.prog 66 #[dayV k n dw, .int .i64 m, .int .i64 s] w fun e w' => e = .returned (.tuple #[.agg (sA St.nil), .bool false]) ∧ Below w.heap.size w w' := by
  have b0 := ((Below.refl w.heap.size w).alloc (Nat.le_refl _) (.cells #[.int .u8 k, .int .i64 n, .int .i64 dw] 93)).alloc (by simp) (.cells #[.int .u16 0, .int .u16 0, .int .u16 0, .int .u16 0, .int .u16 0, .int .u16 0, .int .u16 0, .int .u16 0] 24)
  have d0 := (Blk.new w 93 #[.int .u8 k, .int .i64 n, .int .i64 dw]).alloc (.cells #[.int .u16 0, .int .u16 0, .int .u16 0, .int .u16 0, .int .u16 0, .int .u16 0, .int .u16 0, .int .u16 0] 24)
  have z0 := blk_at (w.alloc (.cells #[.int .u8 k, .int .i64 n, .int .i64 dw] 93)) 24 #[.int .u16 0, .int .u16 0, .int .u16 0, .int .u16 0, .int .u16 0, .int .u16 0, .int .u16 0, .int .u16 0] (sz1 w (.cells #[.int .u8 k, .int .i64 n, .int .i64 dw] 93) rfl)
  have hdc := fun w => rdchk_any k n dw w hk
  rw [hE] at hdc; clear hE
  go_enter Tryd.func66, Tryd.ntmps66
  go_wp2_with (refine wpList_row_g rfl 93 _ rfl _ rfl _ _ _ _ d0 Tryd.underlying93 rfl (by kernel_rfl) ?_)
  refine (hdc _).mono ?_; rintro e w1 ⟨rfl, hb1⟩
  have b1 := b0.trans (hb1.mono b0.size)
  have d1 := d0.below hb1 d0.lt
  have z1 := z0.below hb1 z0.lt
  clear b0 d0 z0 hb1 hdc
  go_wp2_with (first | refine wpList_store_g rfl 24 _ _ rfl rfl (w.heap.size + 1) 0 #[.int .u16 0, .int .u16 0, .int .u16 0, .int .u16 0, .int .u16 0, .int .u16 0, .int .u16 0, .int .u16 0] #[.int .u16 0, .int .u16 0, .int .u16 0, .int .u16 0, .int .u16 0, .int .u16 0, .int .u16 0, .int .u16 0] rfl rfl _ _ z1 (by show 0 + 8 ≤ 8; decide) (by kernel_rfl) (by kernel_rfl) (by kernel_rfl) ?_)
  exact bodyPost_ret (res_ct rfl _ _ _ _ (sA St.nil) _ _ rfl rfl (Blk.row z1 _) Tryd.underlying24 rfl (by kernel_rfl)) rfl ⟨rfl, below_row b1 (by omega) _⟩
set_option maxRecDepth 100000 in
set_option maxHeartbeats 6400000 in
theorem rrule_s1 (k n dw m s : Int) (w : World) (hk : 0 ≤ k) (hE : dE k n dw = 0) (h1 : ¬ m < 1) (h2 : ¬ 12 < m) (h3 : s < 0) :
    Calls Tryd.prog 66 #[dayV k n dw, .int .i64 m, .int .i64 s] w fun e w' => e = .returned (.tuple #[.agg (sA St.nil), .bool false]) ∧ Below w.heap.size w w' := by
  have b0 := ((Below.refl w.heap.size w).alloc (Nat.le_refl _) (.cells #[.int .u8 k, .int .i64 n, .int .i64 dw] 93)).alloc (by simp) (.cells #[.int .u16 0, .int .u16 0, .int .u16 0, .int .u16 0, .int .u16 0, .int .u16 0, .int .u16 0, .int .u16 0] 24)
  have d0 := (Blk.new w 93 #[.int .u8 k, .int .i64 n, .int .i64 dw]).alloc (.cells #[.int .u16 0, .int .u16 0, .int .u16 0, .int .u16 0, .int .u16 0, .int .u16 0, .int .u16 0, .int .u16 0] 24)
  have z0 := blk_at (w.alloc (.cells #[.int .u8 k, .int .i64 n, .int .i64 dw] 93)) 24 #[.int .u16 0, .int .u16 0, .int .u16 0, .int .u16 0, .int .u16 0, .int .u16 0, .int .u16 0, .int .u16 0] (sz1 w (.cells #[.int .u8 k, .int .i64 n, .int .i64 dw] 93) rfl)
  have hdc := fun w => rdchk_any k n dw w hk
  rw [hE] at hdc; clear hE
  go_enter Tryd.func66, Tryd.ntmps66
  go_wp2_with (refine wpList_row_g rfl 93 _ rfl _ rfl _ _ _ _ d0 Tryd.underlying93 rfl (by kernel_rfl) ?_)
  refine (hdc _).mono ?_; rintro e w1 ⟨rfl, hb1⟩
  have b1 := b0.trans (hb1.mono b0.size)
  have d1 := d0.below hb1 d0.lt
  have z1 := z0.below hb1 z0.lt
  clear b0 d0 z0 hb1 hdc
  go_wp2_with (first | refine wpList_store_g rfl 24 _ _ rfl rfl (w.heap.size + 1) 0 #[.int .u16 0, .int .u16 0, .int .u16 0, .int .u16 0, .int .u16 0, .int .u16 0, .int .u16 0, .int .u16 0] #[.int .u16 0, .int .u16 0, .int .u16 0, .int .u16 0, .int .u16 0, .int .u16 0, .int .u16 0, .int .u16 0] rfl rfl _ _ z1 (by show 0 + 8 ≤ 8; decide) (by kernel_rfl) (by kernel_rfl) (by kernel_rfl) ?_)
  exact bodyPost_ret (res_ct rfl _ _ _ _ (sA St.nil) _ _ rfl rfl (Blk.row z1 _) Tryd.underlying24 rfl (by kernel_rfl)) rfl ⟨rfl, below_row b1 (by omega) _⟩
set_option maxRecDepth 100000 in
set_option maxHeartbeats 6400000 in
theorem rrule_s2 (k n dw m s : Int) (w : World) (hk : 0 ≤ k) (hE : dE k n dw = 0) (h1 : ¬ m < 1) (h2 : ¬ 12 < m) (h3 : ¬ s < 0) (h4 : 86399 < s) :
    Calls Tryd.prog 66 #[dayV k n dw, .int .i64 m, .int .i64 s] w fun e w' => e = .returned (.tuple #[.agg (sA St.nil), .bool false]) ∧ Below w.heap.size w w' := by
  have b0 := ((Below.refl w.heap.size w).alloc (Nat.le_refl _) (.cells #[.int .u8 k, .int .i64 n, .int .i64 dw] 93)).alloc (by simp) (.cells #[.int .u16 0, .int .u16 0, .int .u16 0, .int .u16 0, .int .u16 0, .int .u16 0, .int .u16 0, .int .u16 0] 24)
  have d0 := (Blk.new w 93 #[.int .u8 k, .int .i64 n, .int .i64 dw]).alloc (.cells #[.int .u16 0, .int .u16 0, .int .u16 0, .int .u16 0, .int .u16 0, .int .u16 0, .int .u16 0, .int .u16 0] 24)
  have z0 := blk_at (w.alloc (.cells #[.int .u8 k, .int .i64 n, .int .i64 dw] 93)) 24 #[.int .u16 0, .int .u16 0, .int .u16 0, .int .u16 0, .int .u16 0, .int .u16 0, .int .u16 0, .int .u16 0] (sz1 w (.cells #[.int .u8 k, .int .i64 n, .int .i64 dw] 93) rfl)
  have hdc := fun w => rdchk_any k n dw w hk
  rw [hE] at hdc; clear hE
  go_enter Tryd.func66, Tryd.ntmps66
  go_wp2_with (refine wpList_row_g rfl 93 _ rfl _ rfl _ _ _ _ d0 Tryd.underlying93 rfl (by kernel_rfl) ?_)
  refine (hdc _).mono ?_; rintro e w1 ⟨rfl, hb1⟩
  have b1 := b0.trans (hb1.mono b0.size)
  have d1 := d0.below hb1 d0.lt
  have z1 := z0.below hb1 z0.lt
  clear b0 d0 z0 hb1 hdc
  go_wp2_with (first | refine wpList_store_g rfl 24 _ _ rfl rfl (w.heap.size + 1) 0 #[.int .u16 0, .int .u16 0, .int .u16 0, .int .u16 0, .int .u16 0, .int .u16 0, .int .u16 0, .int .u16 0] #[.int .u16 0, .int .u16 0, .int .u16 0, .int .u16 0, .int .u16 0, .int .u16 0, .int .u16 0, .int .u16 0] rfl rfl _ _ z1 (by show 0 + 8 ≤ 8; decide) (by kernel_rfl) (by kernel_rfl) (by kernel_rfl) ?_)
  exact bodyPost_ret (res_ct rfl _ _ _ _ (sA St.nil) _ _ rfl rfl (Blk.row z1 _) Tryd.underlying24 rfl (by kernel_rfl)) rfl ⟨rfl, below_row b1 (by omega) _⟩
set_option maxRecDepth 100000 in
set_option maxHeartbeats 6400000 in
theorem rrule_last (k n dw m s : Int) (w : World) (hk : 0 ≤ k) (hk1 : k = 1) (hE : dE k n dw = 0) (h1 : ¬ m < 1) (h2 : ¬ 12 < m) (h3 : ¬ s < 0) (h4 : ¬ 86399 < s) (hdw : 0 ≤ dw ∧ dw ≤ 6)  :
    Calls Tryd.prog 66 #[dayV k n dw, .int .i64 m, .int .i64 s] w fun e w' => e = .returned (.tuple #[.agg #[.int .u16 0, .int .u16 m, .int .u16 dw, .int .u16 5, .int .u16 (s / 3600), .int .u16 (s / 60 % 60), .int .u16 (s % 60), .int .u16 0], .bool true]) ∧ Below w.heap.size w w' := by
  have b0 := ((Below.refl w.heap.size w).alloc (Nat.le_refl _) (.cells #[.int .u8 k, .int .i64 n, .int .i64 dw] 93)).alloc (by simp) (.cells #[.int .u16 0, .int .u16 0, .int .u16 0, .int .u16 0, .int .u16 0, .int .u16 0, .int .u16 0, .int .u16 0] 24)
  have d0 := (Blk.new w 93 #[.int .u8 k, .int .i64 n, .int .i64 dw]).alloc (.cells #[.int .u16 0, .int .u16 0, .int .u16 0, .int .u16 0, .int .u16 0, .int .u16 0, .int .u16 0, .int .u16 0] 24)
  have z0 := blk_at (w.alloc (.cells #[.int .u8 k, .int .i64 n, .int .i64 dw] 93)) 24 #[.int .u16 0, .int .u16 0, .int .u16 0, .int .u16 0, .int .u16 0, .int .u16 0, .int .u16 0, .int .u16 0] (sz1 w (.cells #[.int .u8 k, .int .i64 n, .int .i64 dw] 93) rfl)
  have hdc := fun w => rdchk_any k n dw w hk
  subst hk1
  rw [hE] at hdc; clear hE
  have a1 : IntKind.u16.wrap m = m := by simp [IntKind.wrap, IntKind.bits, IntKind.signed]; omega
  have a2 : IntKind.u16.wrap dw = dw := by simp [IntKind.wrap, IntKind.bits, IntKind.signed]; omega
  have e0 : s.tdiv 3600 = s / 3600 := Int.tdiv_eq_ediv_of_nonneg (by omega)
  have e1 : s.tdiv 60 = s / 60 := Int.tdiv_eq_ediv_of_nonneg (by omega)
  have e2 : s.tmod 60 = s % 60 := Int.tmod_eq_emod_of_nonneg (by omega)
  have e3 : (s / 60).tmod 60 = s / 60 % 60 := Int.tmod_eq_emod_of_nonneg (by omega)
  have g0 : IntKind.u16.wrap (s / 3600) = s / 3600 := by simp [IntKind.wrap, IntKind.bits, IntKind.signed]; omega
  have g1 : IntKind.u16.wrap (s / 60 % 60) = s / 60 % 60 := by simp [IntKind.wrap, IntKind.bits, IntKind.signed]; omega
  have g2 : IntKind.u16.wrap (s % 60) = s % 60 := by simp [IntKind.wrap, IntKind.bits, IntKind.signed]; omega
  go_enter Tryd.func66, Tryd.ntmps66
  go_wp2_with (refine wpList_row_g rfl 93 _ rfl _ rfl _ _ _ _ d0 Tryd.underlying93 rfl (by kernel_rfl) ?_)
  refine (hdc _).mono ?_; rintro e w1 ⟨rfl, hb1⟩
  have b1 := b0.trans (hb1.mono b0.size)
  have d1 := d0.below hb1 d0.lt
  have z1 := z0.below hb1 z0.lt
  clear b0 d0 z0 hb1 hdc
  have k2 := d1.cell 2; simp at k2
  have x2 := Blk.new w1 24 #[.int .u16 0, .int .u16 m, .int .u16 dw, .int .u16 0, .int .u16 (s / 3600), .int .u16 (s / 60 % 60), .int .u16 (s % 60), .int .u16 0]; have d2 := d1.alloc (.cells #[.int .u16 0, .int .u16 m, .int .u16 dw, .int .u16 0, .int .u16 (s / 3600), .int .u16 (s / 60 % 60), .int .u16 (s % 60), .int .u16 0] 24); have z2 := z1.alloc (.cells #[.int .u16 0, .int .u16 m, .int .u16 dw, .int .u16 0, .int .u16 (s / 3600), .int .u16 (s / 60 % 60), .int .u16 (s % 60), .int .u16 0] 24); have b2 := b1.alloc b1.size (.cells #[.int .u16 0, .int .u16 m, .int .u16 dw, .int .u16 0, .int .u16 (s / 3600), .int .u16 (s / 60 % 60), .int .u16 (s % 60), .int .u16 0] 24)
  have zs := z1.lt
  clear d1 z1 b1
  go_upto_region 4 with (first | refine wpList_store_new rfl 24 _ _ rfl rfl w1.heap.size #[.int .u16 0, .int .u16 m, .int .u16 dw, .int .u16 0, .int .u16 (s / 3600), .int .u16 (s / 60 % 60), .int .u16 (s % 60), .int .u16 0] rfl rfl _ #[.int .u16 0, .int .u16 0, .int .u16 0, .int .u16 0, .int .u16 0, .int .u16 0, .int .u16 0, .int .u16 0] w1 rfl rfl rfl (by kernel_rfl) (by kernel_rfl) ?_)
  generalize w1.alloc (.cells #[.int .u16 0, .int .u16 m, .int .u16 dw, .int .u16 0, .int .u16 (s / 3600), .int .u16 (s / 60 % 60), .int .u16 (s % 60), .int .u16 0] 24) = W at *
  generalize w1.heap.size = gs at *
  have k0 := d2.cell 0; have k1 := d2.cell 1; simp at k0 k1
  have xx := x2.set_ 3 (.int .u16 5); simp only [List.setIfInBounds_toArray, List.set_cons_zero, List.set_cons_succ] at xx
  have zz := z2.far (p := ⟨gs, 3, none⟩) (show w.heap.size + 1 ≠ gs by omega) (.int .u16 5)
  have bb := b2.setCell (p := ⟨gs, 3, none⟩) (show w.heap.size ≤ gs by omega) (.int .u16 5)
  have c3 := x2.cell 3; have f3 := x2.frozen 3; simp at c3
  go_wp2_with (first | refine wpList_row_g rfl 24 _ rfl _ rfl _ _ _ _ xx Tryd.underlying24 rfl (by kernel_rfl) ?_ | refine wpList_store_g rfl 24 _ _ rfl rfl (w.heap.size + 1) 0 #[.int .u16 0, .int .u16 m, .int .u16 dw, .int .u16 5, .int .u16 (s / 3600), .int .u16 (s / 60 % 60), .int .u16 (s % 60), .int .u16 0] #[.int .u16 0, .int .u16 m, .int .u16 dw, .int .u16 5, .int .u16 (s / 3600), .int .u16 (s / 60 % 60), .int .u16 (s % 60), .int .u16 0] rfl rfl _ _ zz (by show 0 + 8 ≤ 8; decide) (by kernel_rfl) (by kernel_rfl) (by kernel_rfl) ?_)
  exact bodyPost_ret (res_ct rfl _ _ _ _ #[.int .u16 0, .int .u16 m, .int .u16 dw, .int .u16 5, .int .u16 (s / 3600), .int .u16 (s / 60 % 60), .int .u16 (s % 60), .int .u16 0] _ _ rfl rfl (Blk.row zz _) Tryd.underlying24 rfl (by kernel_rfl)) rfl ⟨rfl, below_row bb (by omega) _⟩
set_option maxRecDepth 100000 in
set_option maxHeartbeats 6400000 in
theorem rrule_2_0 (k n dw m s : Int) (w : World) (hk : 0 ≤ k) (hk1 : k = 2) (hn1 : n = 1) (hE : dE k n dw = 0) (h1 : ¬ m < 1) (h2 : ¬ 12 < m) (h3 : ¬ s < 0) (h4 : ¬ 86399 < s) (hdw : 0 ≤ dw ∧ dw ≤ 6)  :
    Calls Tryd.prog 66 #[dayV k n dw, .int .i64 m, .int .i64 s] w fun e w' => e = .returned (.tuple #[.agg #[.int .u16 0, .int .u16 m, .int .u16 dw, .int .u16 1, .int .u16 (s / 3600), .int .u16 (s / 60 % 60), .int .u16 (s % 60), .int .u16 0], .bool true]) ∧ Below w.heap.size w w' := by
  have b0 := ((Below.refl w.heap.size w).alloc (Nat.le_refl _) (.cells #[.int .u8 k, .int .i64 n, .int .i64 dw] 93)).alloc (by simp) (.cells #[.int .u16 0, .int .u16 0, .int .u16 0, .int .u16 0, .int .u16 0, .int .u16 0, .int .u16 0, .int .u16 0] 24)
  have d0 := (Blk.new w 93 #[.int .u8 k, .int .i64 n, .int .i64 dw]).alloc (.cells #[.int .u16 0, .int .u16 0, .int .u16 0, .int .u16 0, .int .u16 0, .int .u16 0, .int .u16 0, .int .u16 0] 24)
  have z0 := blk_at (w.alloc (.cells #[.int .u8 k, .int .i64 n, .int .i64 dw] 93)) 24 #[.int .u16 0, .int .u16 0, .int .u16 0, .int .u16 0, .int .u16 0, .int .u16 0, .int .u16 0, .int .u16 0] (sz1 w (.cells #[.int .u8 k, .int .i64 n, .int .i64 dw] 93) rfl)
  have hdc := fun w => rdchk_any k n dw w hk
  subst hk1; subst hn1
  rw [hE] at hdc; clear hE
  have a1 : IntKind.u16.wrap m = m := by simp [IntKind.wrap, IntKind.bits, IntKind.signed]; omega
  have a2 : IntKind.u16.wrap dw = dw := by simp [IntKind.wrap, IntKind.bits, IntKind.signed]; omega
  have e0 : s.tdiv 3600 = s / 3600 := Int.tdiv_eq_ediv_of_nonneg (by omega)
  have e1 : s.tdiv 60 = s / 60 := Int.tdiv_eq_ediv_of_nonneg (by omega)
  have e2 : s.tmod 60 = s % 60 := Int.tmod_eq_emod_of_nonneg (by omega)
  have e3 : (s / 60).tmod 60 = s / 60 % 60 := Int.tmod_eq_emod_of_nonneg (by omega)
  have g0 : IntKind.u16.wrap (s / 3600) = s / 3600 := by simp [IntKind.wrap, IntKind.bits, IntKind.signed]; omega
  have g1 : IntKind.u16.wrap (s / 60 % 60) = s / 60 % 60 := by simp [IntKind.wrap, IntKind.bits, IntKind.signed]; omega
  have g2 : IntKind.u16.wrap (s % 60) = s % 60 := by simp [IntKind.wrap, IntKind.bits, IntKind.signed]; omega
  go_enter Tryd.func66, Tryd.ntmps66
  go_wp2_with (refine wpList_row_g rfl 93 _ rfl _ rfl _ _ _ _ d0 Tryd.underlying93 rfl (by kernel_rfl) ?_)
  refine (hdc _).mono ?_; rintro e w1 ⟨rfl, hb1⟩
  have b1 := b0.trans (hb1.mono b0.size)
  have d1 := d0.below hb1 d0.lt
  have z1 := z0.below hb1 z0.lt
  clear b0 d0 z0 hb1 hdc
  have k2 := d1.cell 2; simp at k2
  have x2 := Blk.new w1 24 #[.int .u16 0, .int .u16 m, .int .u16 dw, .int .u16 0, .int .u16 (s / 3600), .int .u16 (s / 60 % 60), .int .u16 (s % 60), .int .u16 0]; have d2 := d1.alloc (.cells #[.int .u16 0, .int .u16 m, .int .u16 dw, .int .u16 0, .int .u16 (s / 3600), .int .u16 (s / 60 % 60), .int .u16 (s % 60), .int .u16 0] 24); have z2 := z1.alloc (.cells #[.int .u16 0, .int .u16 m, .int .u16 dw, .int .u16 0, .int .u16 (s / 3600), .int .u16 (s / 60 % 60), .int .u16 (s % 60), .int .u16 0] 24); have b2 := b1.alloc b1.size (.cells #[.int .u16 0, .int .u16 m, .int .u16 dw, .int .u16 0, .int .u16 (s / 3600), .int .u16 (s / 60 % 60), .int .u16 (s % 60), .int .u16 0] 24)
  have zs := z1.lt
  clear d1 z1 b1
  go_upto_region 4 with (first | refine wpList_store_new rfl 24 _ _ rfl rfl w1.heap.size #[.int .u16 0, .int .u16 m, .int .u16 dw, .int .u16 0, .int .u16 (s / 3600), .int .u16 (s / 60 % 60), .int .u16 (s % 60), .int .u16 0] rfl rfl _ #[.int .u16 0, .int .u16 0, .int .u16 0, .int .u16 0, .int .u16 0, .int .u16 0, .int .u16 0, .int .u16 0] w1 rfl rfl rfl (by kernel_rfl) (by kernel_rfl) ?_)
  generalize w1.alloc (.cells #[.int .u16 0, .int .u16 m, .int .u16 dw, .int .u16 0, .int .u16 (s / 3600), .int .u16 (s / 60 % 60), .int .u16 (s % 60), .int .u16 0] 24) = W at *
  generalize w1.heap.size = gs at *
  have k0 := d2.cell 0; have k1 := d2.cell 1; simp at k0 k1
  go_wp2_with fail
  have x3 := x2.alloc (.cells #[.int .i64 1, .int .i64 8, .int .i64 15, .int .i64 22] 3); have d3 := d2.alloc (.cells #[.int .i64 1, .int .i64 8, .int .i64 15, .int .i64 22] 3); have z3 := z2.alloc (.cells #[.int .i64 1, .int .i64 8, .int .i64 15, .int .i64 22] 3); have b3 := b2.alloc b2.size (.cells #[.int .i64 1, .int .i64 8, .int .i64 15, .int .i64 22] 3); have l3 := Blk.new W 3 #[.int .i64 1, .int .i64 8, .int .i64 15, .int .i64 22]
  clear x2 d2 z2 b2 k0 k1
  generalize W.alloc (.cells #[.int .i64 1, .int .i64 8, .int .i64 15, .int .i64 22] 3) = W3 at *
  generalize W.heap.size = ge at *
  have k0 := d3.cell 0; have k1 := d3.cell 1; simp at k0 k1
  have e_0 : W3.cell? ⟨ge, 0, none⟩ = some (.int .i64 1) := l3.cell 0
  have e_1 : W3.cell? ⟨ge, 1, none⟩ = some (.int .i64 8) := l3.cell 1
  have e_2 : W3.cell? ⟨ge, 2, none⟩ = some (.int .i64 15) := l3.cell 2
  have e_3 : W3.cell? ⟨ge, 3, none⟩ = some (.int .i64 22) := l3.cell 3
  go_loop [59] (fun i => i = .int .i64 0) (fun i => 4 - (intOf i).toNat)
  case atStart => rfl
  case round =>
    subst hrel
    have xx := x3.set_ 3 (.int .u16 1); simp only [List.setIfInBounds_toArray, List.set_cons_zero, List.set_cons_succ] at xx
    have zz := z3.far (p := ⟨gs, 3, none⟩) (show w.heap.size + 1 ≠ gs by omega) (.int .u16 1)
    have bb := b3.setCell (p := ⟨gs, 3, none⟩) (show w.heap.size ≤ gs by omega) (.int .u16 1)
    have c3 := x3.cell 3; have f3 := x3.frozen 3; simp at c3
    go_wp2_with (first | refine wpList_row_g rfl 24 _ rfl _ rfl _ _ _ _ xx Tryd.underlying24 rfl (by kernel_rfl) ?_ | refine wpList_store_g rfl 24 _ _ rfl rfl (w.heap.size + 1) 0 #[.int .u16 0, .int .u16 m, .int .u16 dw, .int .u16 1, .int .u16 (s / 3600), .int .u16 (s / 60 % 60), .int .u16 (s % 60), .int .u16 0] #[.int .u16 0, .int .u16 m, .int .u16 dw, .int .u16 1, .int .u16 (s / 3600), .int .u16 (s / 60 % 60), .int .u16 (s % 60), .int .u16 0] rfl rfl _ _ zz (by show 0 + 8 ≤ 8; decide) (by kernel_rfl) (by kernel_rfl) (by kernel_rfl) ?_)
    exact bodyPost_ret (res_ct rfl _ _ _ _ #[.int .u16 0, .int .u16 m, .int .u16 dw, .int .u16 1, .int .u16 (s / 3600), .int .u16 (s / 60 % 60), .int .u16 (s % 60), .int .u16 0] _ _ rfl rfl (Blk.row zz _) Tryd.underlying24 rfl (by kernel_rfl)) rfl ⟨rfl, below_row bb (by omega) _⟩
set_option maxRecDepth 100000 in
set_option maxHeartbeats 6400000 in
theorem rrule_2_1 (k n dw m s : Int) (w : World) (hk : 0 ≤ k) (hk1 : k = 2) (hn1 : n = 8) (hE : dE k n dw = 0) (h1 : ¬ m < 1) (h2 : ¬ 12 < m) (h3 : ¬ s < 0) (h4 : ¬ 86399 < s) (hdw : 0 ≤ dw ∧ dw ≤ 6)  :
    Calls Tryd.prog 66 #[dayV k n dw, .int .i64 m, .int .i64 s] w fun e w' => e = .returned (.tuple #[.agg #[.int .u16 0, .int .u16 m, .int .u16 dw, .int .u16 2, .int .u16 (s / 3600), .int .u16 (s / 60 % 60), .int .u16 (s % 60), .int .u16 0], .bool true]) ∧ Below w.heap.size w w' := by
  have b0 := ((Below.refl w.heap.size w).alloc (Nat.le_refl _) (.cells #[.int .u8 k, .int .i64 n, .int .i64 dw] 93)).alloc (by simp) (.cells #[.int .u16 0, .int .u16 0, .int .u16 0, .int .u16 0, .int .u16 0, .int .u16 0, .int .u16 0, .int .u16 0] 24)
  have d0 := (Blk.new w 93 #[.int .u8 k, .int .i64 n, .int .i64 dw]).alloc (.cells #[.int .u16 0, .int .u16 0, .int .u16 0, .int .u16 0, .int .u16 0, .int .u16 0, .int .u16 0, .int .u16 0] 24)
  have z0 := blk_at (w.alloc (.cells #[.int .u8 k, .int .i64 n, .int .i64 dw] 93)) 24 #[.int .u16 0, .int .u16 0, .int .u16 0, .int .u16 0, .int .u16 0, .int .u16 0, .int .u16 0, .int .u16 0] (sz1 w (.cells #[.int .u8 k, .int .i64 n, .int .i64 dw] 93) rfl)
  have hdc := fun w => rdchk_any k n dw w hk
  subst hk1; subst hn1
  rw [hE] at hdc; clear hE
  have a1 : IntKind.u16.wrap m = m := by simp [IntKind.wrap, IntKind.bits, IntKind.signed]; omega
  have a2 : IntKind.u16.wrap dw = dw := by simp [IntKind.wrap, IntKind.bits, IntKind.signed]; omega
  have e0 : s.tdiv 3600 = s / 3600 := Int.tdiv_eq_ediv_of_nonneg (by omega)
  have e1 : s.tdiv 60 = s / 60 := Int.tdiv_eq_ediv_of_nonneg (by omega)
  have e2 : s.tmod 60 = s % 60 := Int.tmod_eq_emod_of_nonneg (by omega)
  have e3 : (s / 60).tmod 60 = s / 60 % 60 := Int.tmod_eq_emod_of_nonneg (by omega)
  have g0 : IntKind.u16.wrap (s / 3600) = s / 3600 := by simp [IntKind.wrap, IntKind.bits, IntKind.signed]; omega
  have g1 : IntKind.u16.wrap (s / 60 % 60) = s / 60 % 60 := by simp [IntKind.wrap, IntKind.bits, IntKind.signed]; omega
  have g2 : IntKind.u16.wrap (s % 60) = s % 60 := by simp [IntKind.wrap, IntKind.bits, IntKind.signed]; omega
  go_enter Tryd.func66, Tryd.ntmps66
  go_wp2_with (refine wpList_row_g rfl 93 _ rfl _ rfl _ _ _ _ d0 Tryd.underlying93 rfl (by kernel_rfl) ?_)
  refine (hdc _).mono ?_; rintro e w1 ⟨rfl, hb1⟩
  have b1 := b0.trans (hb1.mono b0.size)
  have d1 := d0.below hb1 d0.lt
  have z1 := z0.below hb1 z0.lt
  clear b0 d0 z0 hb1 hdc
  have k2 := d1.cell 2; simp at k2
  have x2 := Blk.new w1 24 #[.int .u16 0, .int .u16 m, .int .u16 dw, .int .u16 0, .int .u16 (s / 3600), .int .u16 (s / 60 % 60), .int .u16 (s % 60), .int .u16 0]; have d2 := d1.alloc (.cells #[.int .u16 0, .int .u16 m, .int .u16 dw, .int .u16 0, .int .u16 (s / 3600), .int .u16 (s / 60 % 60), .int .u16 (s % 60), .int .u16 0] 24); have z2 := z1.alloc (.cells #[.int .u16 0, .int .u16 m, .int .u16 dw, .int .u16 0, .int .u16 (s / 3600), .int .u16 (s / 60 % 60), .int .u16 (s % 60), .int .u16 0] 24); have b2 := b1.alloc b1.size (.cells #[.int .u16 0, .int .u16 m, .int .u16 dw, .int .u16 0, .int .u16 (s / 3600), .int .u16 (s / 60 % 60), .int .u16 (s % 60), .int .u16 0] 24)
  have zs := z1.lt
  clear d1 z1 b1
  go_upto_region 4 with (first | refine wpList_store_new rfl 24 _ _ rfl rfl w1.heap.size #[.int .u16 0, .int .u16 m, .int .u16 dw, .int .u16 0, .int .u16 (s / 3600), .int .u16 (s / 60 % 60), .int .u16 (s % 60), .int .u16 0] rfl rfl _ #[.int .u16 0, .int .u16 0, .int .u16 0, .int .u16 0, .int .u16 0, .int .u16 0, .int .u16 0, .int .u16 0] w1 rfl rfl rfl (by kernel_rfl) (by kernel_rfl) ?_)
  generalize w1.alloc (.cells #[.int .u16 0, .int .u16 m, .int .u16 dw, .int .u16 0, .int .u16 (s / 3600), .int .u16 (s / 60 % 60), .int .u16 (s % 60), .int .u16 0] 24) = W at *
  generalize w1.heap.size = gs at *
  have k0 := d2.cell 0; have k1 := d2.cell 1; simp at k0 k1
  go_wp2_with fail
  have x3 := x2.alloc (.cells #[.int .i64 1, .int .i64 8, .int .i64 15, .int .i64 22] 3); have d3 := d2.alloc (.cells #[.int .i64 1, .int .i64 8, .int .i64 15, .int .i64 22] 3); have z3 := z2.alloc (.cells #[.int .i64 1, .int .i64 8, .int .i64 15, .int .i64 22] 3); have b3 := b2.alloc b2.size (.cells #[.int .i64 1, .int .i64 8, .int .i64 15, .int .i64 22] 3); have l3 := Blk.new W 3 #[.int .i64 1, .int .i64 8, .int .i64 15, .int .i64 22]
  clear x2 d2 z2 b2 k0 k1
  generalize W.alloc (.cells #[.int .i64 1, .int .i64 8, .int .i64 15, .int .i64 22] 3) = W3 at *
  generalize W.heap.size = ge at *
  have k0 := d3.cell 0; have k1 := d3.cell 1; simp at k0 k1
  have e_0 : W3.cell? ⟨ge, 0, none⟩ = some (.int .i64 1) := l3.cell 0
  have e_1 : W3.cell? ⟨ge, 1, none⟩ = some (.int .i64 8) := l3.cell 1
  have e_2 : W3.cell? ⟨ge, 2, none⟩ = some (.int .i64 15) := l3.cell 2
  have e_3 : W3.cell? ⟨ge, 3, none⟩ = some (.int .i64 22) := l3.cell 3
  go_loop [59] (fun i => i = .int .i64 0 ∨ i = .int .i64 1) (fun i => 4 - (intOf i).toNat)
  case atStart => exact .inl rfl
  case round =>
    rcases hrel with rfl | rfl
    · go_wp2_with fail
      go_round
      case rel => exact .inr (by go_num)
      case measure => simp [intOf]
    · skip
      have xx := x3.set_ 3 (.int .u16 2); simp only [List.setIfInBounds_toArray, List.set_cons_zero, List.set_cons_succ] at xx
      have zz := z3.far (p := ⟨gs, 3, none⟩) (show w.heap.size + 1 ≠ gs by omega) (.int .u16 2)
      have bb := b3.setCell (p := ⟨gs, 3, none⟩) (show w.heap.size ≤ gs by omega) (.int .u16 2)
      have c3 := x3.cell 3; have f3 := x3.frozen 3; simp at c3
      go_wp2_with (first | refine wpList_row_g rfl 24 _ rfl _ rfl _ _ _ _ xx Tryd.underlying24 rfl (by kernel_rfl) ?_ | refine wpList_store_g rfl 24 _ _ rfl rfl (w.heap.size + 1) 0 #[.int .u16 0, .int .u16 m, .int .u16 dw, .int .u16 2, .int .u16 (s / 3600), .int .u16 (s / 60 % 60), .int .u16 (s % 60), .int .u16 0] #[.int .u16 0, .int .u16 m, .int .u16 dw, .int .u16 2, .int .u16 (s / 3600), .int .u16 (s / 60 % 60), .int .u16 (s % 60), .int .u16 0] rfl rfl _ _ zz (by show 0 + 8 ≤ 8; decide) (by kernel_rfl) (by kernel_rfl) (by kernel_rfl) ?_)
      exact bodyPost_ret (res_ct rfl _ _ _ _ #[.int .u16 0, .int .u16 m, .int .u16 dw, .int .u16 2, .int .u16 (s / 3600), .int .u16 (s / 60 % 60), .int .u16 (s % 60), .int .u16 0] _ _ rfl rfl (Blk.row zz _) Tryd.underlying24 rfl (by kernel_rfl)) rfl ⟨rfl, below_row bb (by omega) _⟩
set_option maxRecDepth 100000 in
set_option maxHeartbeats 6400000 in
theorem rrule_2_2 (k n dw m s : Int) (w : World) (hk : 0 ≤ k) (hk1 : k = 2) (hn1 : n = 15) (hE : dE k n dw = 0) (h1 : ¬ m < 1) (h2 : ¬ 12 < m) (h3 : ¬ s < 0) (h4 : ¬ 86399 < s) (hdw : 0 ≤ dw ∧ dw ≤ 6)  :
    Calls Tryd.prog 66 #[dayV k n dw, .int .i64 m, .int .i64 s] w fun e w' => e = .returned (.tuple #[.agg #[.int .u16 0, .int .u16 m, .int .u16 dw, .int .u16 3, .int .u16 (s / 3600), .int .u16 (s / 60 % 60), .int .u16 (s % 60), .int .u16 0], .bool true]) ∧ Below w.heap.size w w' := by
  have b0 := ((Below.refl w.heap.size w).alloc (Nat.le_refl _) (.cells #[.int .u8 k, .int .i64 n, .int .i64 dw] 93)).alloc (by simp) (.cells #[.int .u16 0, .int .u16 0, .int .u16 0, .int .u16 0, .int .u16 0, .int .u16 0, .int .u16 0, .int .u16 0] 24)
  have d0 := (Blk.new w 93 #[.int .u8 k, .int .i64 n, .int .i64 dw]).alloc (.cells #[.int .u16 0, .int .u16 0, .int .u16 0, .int .u16 0, .int .u16 0, .int .u16 0, .int .u16 0, .int .u16 0] 24)
  have z0 := blk_at (w.alloc (.cells #[.int .u8 k, .int .i64 n, .int .i64 dw] 93)) 24 #[.int .u16 0, .int .u16 0, .int .u16 0, .int .u16 0, .int .u16 0, .int .u16 0, .int .u16 0, .int .u16 0] (sz1 w (.cells #[.int .u8 k, .int .i64 n, .int .i64 dw] 93) rfl)
  have hdc := fun w => rdchk_any k n dw w hk
  subst hk1; subst hn1
  rw [hE] at hdc; clear hE
  have a1 : IntKind.u16.wrap m = m := by simp [IntKind.wrap, IntKind.bits, IntKind.signed]; omega
  have a2 : IntKind.u16.wrap dw = dw := by simp [IntKind.wrap, IntKind.bits, IntKind.signed]; omega
  have e0 : s.tdiv 3600 = s / 3600 := Int.tdiv_eq_ediv_of_nonneg (by omega)
  have e1 : s.tdiv 60 = s / 60 := Int.tdiv_eq_ediv_of_nonneg (by omega)
  have e2 : s.tmod 60 = s % 60 := Int.tmod_eq_emod_of_nonneg (by omega)
  have e3 : (s / 60).tmod 60 = s / 60 % 60 := Int.tmod_eq_emod_of_nonneg (by omega)
  have g0 : IntKind.u16.wrap (s / 3600) = s / 3600 := by simp [IntKind.wrap, IntKind.bits, IntKind.signed]; omega
  have g1 : IntKind.u16.wrap (s / 60 % 60) = s / 60 % 60 := by simp [IntKind.wrap, IntKind.bits, IntKind.signed]; omega
  have g2 : IntKind.u16.wrap (s % 60) = s % 60 := by simp [IntKind.wrap, IntKind.bits, IntKind.signed]; omega
  go_enter Tryd.func66, Tryd.ntmps66
  go_wp2_with (refine wpList_row_g rfl 93 _ rfl _ rfl _ _ _ _ d0 Tryd.underlying93 rfl (by kernel_rfl) ?_)
  refine (hdc _).mono ?_; rintro e w1 ⟨rfl, hb1⟩
  have b1 := b0.trans (hb1.mono b0.size)
  have d1 := d0.below hb1 d0.lt
  have z1 := z0.below hb1 z0.lt
  clear b0 d0 z0 hb1 hdc
  have k2 := d1.cell 2; simp at k2
  have x2 := Blk.new w1 24 #[.int .u16 0, .int .u16 m, .int .u16 dw, .int .u16 0, .int .u16 (s / 3600), .int .u16 (s / 60 % 60), .int .u16 (s % 60), .int .u16 0]; have d2 := d1.alloc (.cells #[.int .u16 0, .int .u16 m, .int .u16 dw, .int .u16 0, .int .u16 (s / 3600), .int .u16 (s / 60 % 60), .int .u16 (s % 60), .int .u16 0] 24); have z2 := z1.alloc (.cells #[.int .u16 0, .int .u16 m, .int .u16 dw, .int .u16 0, .int .u16 (s / 3600), .int .u16 (s / 60 % 60), .int .u16 (s % 60), .int .u16 0] 24); have b2 := b1.alloc b1.size (.cells #[.int .u16 0, .int .u16 m, .int .u16 dw, .int .u16 0, .int .u16 (s / 3600), .int .u16 (s / 60 % 60), .int .u16 (s % 60), .int .u16 0] 24)
  have zs := z1.lt
  clear d1 z1 b1
  go_upto_region 4 with (first | refine wpList_store_new rfl 24 _ _ rfl rfl w1.heap.size #[.int .u16 0, .int .u16 m, .int .u16 dw, .int .u16 0, .int .u16 (s / 3600), .int .u16 (s / 60 % 60), .int .u16 (s % 60), .int .u16 0] rfl rfl _ #[.int .u16 0, .int .u16 0, .int .u16 0, .int .u16 0, .int .u16 0, .int .u16 0, .int .u16 0, .int .u16 0] w1 rfl rfl rfl (by kernel_rfl) (by kernel_rfl) ?_)
  generalize w1.alloc (.cells #[.int .u16 0, .int .u16 m, .int .u16 dw, .int .u16 0, .int .u16 (s / 3600), .int .u16 (s / 60 % 60), .int .u16 (s % 60), .int .u16 0] 24) = W at *
  generalize w1.heap.size = gs at *
  have k0 := d2.cell 0; have k1 := d2.cell 1; simp at k0 k1
  go_wp2_with fail
  have x3 := x2.alloc (.cells #[.int .i64 1, .int .i64 8, .int .i64 15, .int .i64 22] 3); have d3 := d2.alloc (.cells #[.int .i64 1, .int .i64 8, .int .i64 15, .int .i64 22] 3); have z3 := z2.alloc (.cells #[.int .i64 1, .int .i64 8, .int .i64 15, .int .i64 22] 3); have b3 := b2.alloc b2.size (.cells #[.int .i64 1, .int .i64 8, .int .i64 15, .int .i64 22] 3); have l3 := Blk.new W 3 #[.int .i64 1, .int .i64 8, .int .i64 15, .int .i64 22]
  clear x2 d2 z2 b2 k0 k1
  generalize W.alloc (.cells #[.int .i64 1, .int .i64 8, .int .i64 15, .int .i64 22] 3) = W3 at *
  generalize W.heap.size = ge at *
  have k0 := d3.cell 0; have k1 := d3.cell 1; simp at k0 k1
  have e_0 : W3.cell? ⟨ge, 0, none⟩ = some (.int .i64 1) := l3.cell 0
  have e_1 : W3.cell? ⟨ge, 1, none⟩ = some (.int .i64 8) := l3.cell 1
  have e_2 : W3.cell? ⟨ge, 2, none⟩ = some (.int .i64 15) := l3.cell 2
  have e_3 : W3.cell? ⟨ge, 3, none⟩ = some (.int .i64 22) := l3.cell 3
  go_loop [59] (fun i => i = .int .i64 0 ∨ i = .int .i64 1 ∨ i = .int .i64 2) (fun i => 4 - (intOf i).toNat)
  case atStart => exact .inl rfl
  case round =>
    rcases hrel with rfl | rfl | rfl
    · go_wp2_with fail
      go_round
      case rel => exact .inr (.inl (by go_num))
      case measure => simp [intOf]
    · go_wp2_with fail
      go_round
      case rel => exact .inr (.inr (by go_num))
      case measure => simp [intOf]
    · skip
      have xx := x3.set_ 3 (.int .u16 3); simp only [List.setIfInBounds_toArray, List.set_cons_zero, List.set_cons_succ] at xx
      have zz := z3.far (p := ⟨gs, 3, none⟩) (show w.heap.size + 1 ≠ gs by omega) (.int .u16 3)
      have bb := b3.setCell (p := ⟨gs, 3, none⟩) (show w.heap.size ≤ gs by omega) (.int .u16 3)
      have c3 := x3.cell 3; have f3 := x3.frozen 3; simp at c3
      go_wp2_with (first | refine wpList_row_g rfl 24 _ rfl _ rfl _ _ _ _ xx Tryd.underlying24 rfl (by kernel_rfl) ?_ | refine wpList_store_g rfl 24 _ _ rfl rfl (w.heap.size + 1) 0 #[.int .u16 0, .int .u16 m, .int .u16 dw, .int .u16 3, .int .u16 (s / 3600), .int .u16 (s / 60 % 60), .int .u16 (s % 60), .int .u16 0] #[.int .u16 0, .int .u16 m, .int .u16 dw, .int .u16 3, .int .u16 (s / 3600), .int .u16 (s / 60 % 60), .int .u16 (s % 60), .int .u16 0] rfl rfl _ _ zz (by show 0 + 8 ≤ 8; decide) (by kernel_rfl) (by kernel_rfl) (by kernel_rfl) ?_)
      exact bodyPost_ret (res_ct rfl _ _ _ _ #[.int .u16 0, .int .u16 m, .int .u16 dw, .int .u16 3, .int .u16 (s / 3600), .int .u16 (s / 60 % 60), .int .u16 (s % 60), .int .u16 0] _ _ rfl rfl (Blk.row zz _) Tryd.underlying24 rfl (by kernel_rfl)) rfl ⟨rfl, below_row bb (by omega) _⟩
set_option maxRecDepth 100000 in
set_option maxHeartbeats 6400000 in
theorem rrule_2_3 (k n dw m s : Int) (w : World) (hk : 0 ≤ k) (hk1 : k = 2) (hn1 : n = 22) (hE : dE k n dw = 0) (h1 : ¬ m < 1) (h2 : ¬ 12 < m) (h3 : ¬ s < 0) (h4 : ¬ 86399 < s) (hdw : 0 ≤ dw ∧ dw ≤ 6)  :
    Calls Tryd.prog 66 #[dayV k n dw, .int .i64 m, .int .i64 s] w fun e w' => e = .returned (.tuple #[.agg #[.int .u16 0, .int .u16 m, .int .u16 dw, .int .u16 4, .int .u16 (s / 3600), .int .u16 (s / 60 % 60), .int .u16 (s % 60), .int .u16 0], .bool true]) ∧ Below w.heap.size w w' := by
  have b0 := ((Below.refl w.heap.size w).alloc (Nat.le_refl _) (.cells #[.int .u8 k, .int .i64 n, .int .i64 dw] 93)).alloc (by simp) (.cells #[.int .u16 0, .int .u16 0, .int .u16 0, .int .u16 0, .int .u16 0, .int .u16 0, .int .u16 0, .int .u16 0] 24)
  have d0 := (Blk.new w 93 #[.int .u8 k, .int .i64 n, .int .i64 dw]).alloc (.cells #[.int .u16 0, .int .u16 0, .int .u16 0, .int .u16 0, .int .u16 0, .int .u16 0, .int .u16 0, .int .u16 0] 24)
  have z0 := blk_at (w.alloc (.cells #[.int .u8 k, .int .i64 n, .int .i64 dw] 93)) 24 #[.int .u16 0, .int .u16 0, .int .u16 0, .int .u16 0, .int .u16 0, .int .u16 0, .int .u16 0, .int .u16 0] (sz1 w (.cells #[.int .u8 k, .int .i64 n, .int .i64 dw] 93) rfl)
  have hdc := fun w => rdchk_any k n dw w hk
  subst hk1; subst hn1
  rw [hE] at hdc; clear hE
  have a1 : IntKind.u16.wrap m = m := by simp [IntKind.wrap, IntKind.bits, IntKind.signed]; omega
  have a2 : IntKind.u16.wrap dw = dw := by simp [IntKind.wrap, IntKind.bits, IntKind.signed]; omega
  have e0 : s.tdiv 3600 = s / 3600 := Int.tdiv_eq_ediv_of_nonneg (by omega)
  have e1 : s.tdiv 60 = s / 60 := Int.tdiv_eq_ediv_of_nonneg (by omega)
  have e2 : s.tmod 60 = s % 60 := Int.tmod_eq_emod_of_nonneg (by omega)
  have e3 : (s / 60).tmod 60 = s / 60 % 60 := Int.tmod_eq_emod_of_nonneg (by omega)
  have g0 : IntKind.u16.wrap (s / 3600) = s / 3600 := by simp [IntKind.wrap, IntKind.bits, IntKind.signed]; omega
  have g1 : IntKind.u16.wrap (s / 60 % 60) = s / 60 % 60 := by simp [IntKind.wrap, IntKind.bits, IntKind.signed]; omega
  have g2 : IntKind.u16.wrap (s % 60) = s % 60 := by simp [IntKind.wrap, IntKind.bits, IntKind.signed]; omega
  go_enter Tryd.func66, Tryd.ntmps66
  go_wp2_with (refine wpList_row_g rfl 93 _ rfl _ rfl _ _ _ _ d0 Tryd.underlying93 rfl (by kernel_rfl) ?_)
  refine (hdc _).mono ?_; rintro e w1 ⟨rfl, hb1⟩
  have b1 := b0.trans (hb1.mono b0.size)
  have d1 := d0.below hb1 d0.lt
  have z1 := z0.below hb1 z0.lt
  clear b0 d0 z0 hb1 hdc
  have k2 := d1.cell 2; simp at k2
  have x2 := Blk.new w1 24 #[.int .u16 0, .int .u16 m, .int .u16 dw, .int .u16 0, .int .u16 (s / 3600), .int .u16 (s / 60 % 60), .int .u16 (s % 60), .int .u16 0]; have d2 := d1.alloc (.cells #[.int .u16 0, .int .u16 m, .int .u16 dw, .int .u16 0, .int .u16 (s / 3600), .int .u16 (s / 60 % 60), .int .u16 (s % 60), .int .u16 0] 24); have z2 := z1.alloc (.cells #[.int .u16 0, .int .u16 m, .int .u16 dw, .int .u16 0, .int .u16 (s / 3600), .int .u16 (s / 60 % 60), .int .u16 (s % 60), .int .u16 0] 24); have b2 := b1.alloc b1.size (.cells #[.int .u16 0, .int .u16 m, .int .u16 dw, .int .u16 0, .int .u16 (s / 3600), .int .u16 (s / 60 % 60), .int .u16 (s % 60), .int .u16 0] 24)
  have zs := z1.lt
  clear d1 z1 b1
  go_upto_region 4 with (first | refine wpList_store_new rfl 24 _ _ rfl rfl w1.heap.size #[.int .u16 0, .int .u16 m, .int .u16 dw, .int .u16 0, .int .u16 (s / 3600), .int .u16 (s / 60 % 60), .int .u16 (s % 60), .int .u16 0] rfl rfl _ #[.int .u16 0, .int .u16 0, .int .u16 0, .int .u16 0, .int .u16 0, .int .u16 0, .int .u16 0, .int .u16 0] w1 rfl rfl rfl (by kernel_rfl) (by kernel_rfl) ?_)
  generalize w1.alloc (.cells #[.int .u16 0, .int .u16 m, .int .u16 dw, .int .u16 0, .int .u16 (s / 3600), .int .u16 (s / 60 % 60), .int .u16 (s % 60), .int .u16 0] 24) = W at *
  generalize w1.heap.size = gs at *
  have k0 := d2.cell 0; have k1 := d2.cell 1; simp at k0 k1
  go_wp2_with fail
  have x3 := x2.alloc (.cells #[.int .i64 1, .int .i64 8, .int .i64 15, .int .i64 22] 3); have d3 := d2.alloc (.cells #[.int .i64 1, .int .i64 8, .int .i64 15, .int .i64 22] 3); have z3 := z2.alloc (.cells #[.int .i64 1, .int .i64 8, .int .i64 15, .int .i64 22] 3); have b3 := b2.alloc b2.size (.cells #[.int .i64 1, .int .i64 8, .int .i64 15, .int .i64 22] 3); have l3 := Blk.new W 3 #[.int .i64 1, .int .i64 8, .int .i64 15, .int .i64 22]
  clear x2 d2 z2 b2 k0 k1
  generalize W.alloc (.cells #[.int .i64 1, .int .i64 8, .int .i64 15, .int .i64 22] 3) = W3 at *
  generalize W.heap.size = ge at *
  have k0 := d3.cell 0; have k1 := d3.cell 1; simp at k0 k1
  have e_0 : W3.cell? ⟨ge, 0, none⟩ = some (.int .i64 1) := l3.cell 0
  have e_1 : W3.cell? ⟨ge, 1, none⟩ = some (.int .i64 8) := l3.cell 1
  have e_2 : W3.cell? ⟨ge, 2, none⟩ = some (.int .i64 15) := l3.cell 2
  have e_3 : W3.cell? ⟨ge, 3, none⟩ = some (.int .i64 22) := l3.cell 3
  go_loop [59] (fun i => i = .int .i64 0 ∨ i = .int .i64 1 ∨ i = .int .i64 2 ∨ i = .int .i64 3) (fun i => 4 - (intOf i).toNat)
  case atStart => exact .inl rfl
  case round =>
    rcases hrel with rfl | rfl | rfl | rfl
    · go_wp2_with fail
      go_round
      case rel => exact .inr (.inl (by go_num))
      case measure => simp [intOf]
    · go_wp2_with fail
      go_round
      case rel => exact .inr (.inr (.inl (by go_num)))
      case measure => simp [intOf]
    · go_wp2_with fail
      go_round
      case rel => exact .inr (.inr (.inr (by go_num)))
      case measure => simp [intOf]
    · skip
      have xx := x3.set_ 3 (.int .u16 4); simp only [List.setIfInBounds_toArray, List.set_cons_zero, List.set_cons_succ] at xx
      have zz := z3.far (p := ⟨gs, 3, none⟩) (show w.heap.size + 1 ≠ gs by omega) (.int .u16 4)
      have bb := b3.setCell (p := ⟨gs, 3, none⟩) (show w.heap.size ≤ gs by omega) (.int .u16 4)
      have c3 := x3.cell 3; have f3 := x3.frozen 3; simp at c3
      go_wp2_with (first | refine wpList_row_g rfl 24 _ rfl _ rfl _ _ _ _ xx Tryd.underlying24 rfl (by kernel_rfl) ?_ | refine wpList_store_g rfl 24 _ _ rfl rfl (w.heap.size + 1) 0 #[.int .u16 0, .int .u16 m, .int .u16 dw, .int .u16 4, .int .u16 (s / 3600), .int .u16 (s / 60 % 60), .int .u16 (s % 60), .int .u16 0] #[.int .u16 0, .int .u16 m, .int .u16 dw, .int .u16 4, .int .u16 (s / 3600), .int .u16 (s / 60 % 60), .int .u16 (s % 60), .int .u16 0] rfl rfl _ _ zz (by show 0 + 8 ≤ 8; decide) (by kernel_rfl) (by kernel_rfl) (by kernel_rfl) ?_)
      exact bodyPost_ret (res_ct rfl _ _ _ _ #[.int .u16 0, .int .u16 m, .int .u16 dw, .int .u16 4, .int .u16 (s / 3600), .int .u16 (s / 60 % 60), .int .u16 (s % 60), .int .u16 0] _ _ rfl rfl (Blk.row zz _) Tryd.underlying24 rfl (by kernel_rfl)) rfl ⟨rfl, below_row bb (by omega) _⟩
set_option maxRecDepth 100000 in
set_option maxHeartbeats 6400000 in
theorem rrule_2_no (k n dw m s : Int) (w : World) (hk : 0 ≤ k) (hk1 : k = 2) (n1 : n ≠ 1) (n8 : n ≠ 8) (n15 : n ≠ 15) (n22 : n ≠ 22) (hE : dE k n dw = 0) (h1 : ¬ m < 1) (h2 : ¬ 12 < m) (h3 : ¬ s < 0) (h4 : ¬ 86399 < s) (hdw : 0 ≤ dw ∧ dw ≤ 6)  :
    Calls Tryd.prog 66 #[dayV k n dw, .int .i64 m, .int .i64 s] w fun e w' => e = .returned (.tuple #[.agg (sA St.nil), .bool false]) ∧ Below w.heap.size w w' := by
  have b0 := ((Below.refl w.heap.size w).alloc (Nat.le_refl _) (.cells #[.int .u8 k, .int .i64 n, .int .i64 dw] 93)).alloc (by simp) (.cells #[.int .u16 0, .int .u16 0, .int .u16 0, .int .u16 0, .int .u16 0, .int .u16 0, .int .u16 0, .int .u16 0] 24)
  have d0 := (Blk.new w 93 #[.int .u8 k, .int .i64 n, .int .i64 dw]).alloc (.cells #[.int .u16 0, .int .u16 0, .int .u16 0, .int .u16 0, .int .u16 0, .int .u16 0, .int .u16 0, .int .u16 0] 24)
  have z0 := blk_at (w.alloc (.cells #[.int .u8 k, .int .i64 n, .int .i64 dw] 93)) 24 #[.int .u16 0, .int .u16 0, .int .u16 0, .int .u16 0, .int .u16 0, .int .u16 0, .int .u16 0, .int .u16 0] (sz1 w (.cells #[.int .u8 k, .int .i64 n, .int .i64 dw] 93) rfl)
  have hdc := fun w => rdchk_any k n dw w hk
  subst hk1
  have f1 : (n == 1) = false := by rw [beq_eq_false_iff_ne]; exact n1
  have f8 : (n == 8) = false := by rw [beq_eq_false_iff_ne]; exact n8
  have f15 : (n == 15) = false := by rw [beq_eq_false_iff_ne]; exact n15
  have f22 : (n == 22) = false := by rw [beq_eq_false_iff_ne]; exact n22
  clear n1 n8 n15 n22
  rw [hE] at hdc; clear hE
  have a1 : IntKind.u16.wrap m = m := by simp [IntKind.wrap, IntKind.bits, IntKind.signed]; omega
  have a2 : IntKind.u16.wrap dw = dw := by simp [IntKind.wrap, IntKind.bits, IntKind.signed]; omega
  have e0 : s.tdiv 3600 = s / 3600 := Int.tdiv_eq_ediv_of_nonneg (by omega)
  have e1 : s.tdiv 60 = s / 60 := Int.tdiv_eq_ediv_of_nonneg (by omega)
  have e2 : s.tmod 60 = s % 60 := Int.tmod_eq_emod_of_nonneg (by omega)
  have e3 : (s / 60).tmod 60 = s / 60 % 60 := Int.tmod_eq_emod_of_nonneg (by omega)
  have g0 : IntKind.u16.wrap (s / 3600) = s / 3600 := by simp [IntKind.wrap, IntKind.bits, IntKind.signed]; omega
  have g1 : IntKind.u16.wrap (s / 60 % 60) = s / 60 % 60 := by simp [IntKind.wrap, IntKind.bits, IntKind.signed]; omega
  have g2 : IntKind.u16.wrap (s % 60) = s % 60 := by simp [IntKind.wrap, IntKind.bits, IntKind.signed]; omega
  go_enter Tryd.func66, Tryd.ntmps66
  go_wp2_with (refine wpList_row_g rfl 93 _ rfl _ rfl _ _ _ _ d0 Tryd.underlying93 rfl (by kernel_rfl) ?_)
  refine (hdc _).mono ?_; rintro e w1 ⟨rfl, hb1⟩
  have b1 := b0.trans (hb1.mono b0.size)
  have d1 := d0.below hb1 d0.lt
  have z1 := z0.below hb1 z0.lt
  clear b0 d0 z0 hb1 hdc
  have k2 := d1.cell 2; simp at k2
  have x2 := Blk.new w1 24 #[.int .u16 0, .int .u16 m, .int .u16 dw, .int .u16 0, .int .u16 (s / 3600), .int .u16 (s / 60 % 60), .int .u16 (s % 60), .int .u16 0]; have d2 := d1.alloc (.cells #[.int .u16 0, .int .u16 m, .int .u16 dw, .int .u16 0, .int .u16 (s / 3600), .int .u16 (s / 60 % 60), .int .u16 (s % 60), .int .u16 0] 24); have z2 := z1.alloc (.cells #[.int .u16 0, .int .u16 m, .int .u16 dw, .int .u16 0, .int .u16 (s / 3600), .int .u16 (s / 60 % 60), .int .u16 (s % 60), .int .u16 0] 24); have b2 := b1.alloc b1.size (.cells #[.int .u16 0, .int .u16 m, .int .u16 dw, .int .u16 0, .int .u16 (s / 3600), .int .u16 (s / 60 % 60), .int .u16 (s % 60), .int .u16 0] 24)
  have zs := z1.lt
  clear d1 z1 b1
  go_upto_region 4 with (first | refine wpList_store_new rfl 24 _ _ rfl rfl w1.heap.size #[.int .u16 0, .int .u16 m, .int .u16 dw, .int .u16 0, .int .u16 (s / 3600), .int .u16 (s / 60 % 60), .int .u16 (s % 60), .int .u16 0] rfl rfl _ #[.int .u16 0, .int .u16 0, .int .u16 0, .int .u16 0, .int .u16 0, .int .u16 0, .int .u16 0, .int .u16 0] w1 rfl rfl rfl (by kernel_rfl) (by kernel_rfl) ?_)
  generalize w1.alloc (.cells #[.int .u16 0, .int .u16 m, .int .u16 dw, .int .u16 0, .int .u16 (s / 3600), .int .u16 (s / 60 % 60), .int .u16 (s % 60), .int .u16 0] 24) = W at *
  generalize w1.heap.size = gs at *
  have k0 := d2.cell 0; have k1 := d2.cell 1; simp at k0 k1
  go_wp2_with fail
  have x3 := x2.alloc (.cells #[.int .i64 1, .int .i64 8, .int .i64 15, .int .i64 22] 3); have d3 := d2.alloc (.cells #[.int .i64 1, .int .i64 8, .int .i64 15, .int .i64 22] 3); have z3 := z2.alloc (.cells #[.int .i64 1, .int .i64 8, .int .i64 15, .int .i64 22] 3); have b3 := b2.alloc b2.size (.cells #[.int .i64 1, .int .i64 8, .int .i64 15, .int .i64 22] 3); have l3 := Blk.new W 3 #[.int .i64 1, .int .i64 8, .int .i64 15, .int .i64 22]
  clear x2 d2 z2 b2 k0 k1
  generalize W.alloc (.cells #[.int .i64 1, .int .i64 8, .int .i64 15, .int .i64 22] 3) = W3 at *
  generalize W.heap.size = ge at *
  have k0 := d3.cell 0; have k1 := d3.cell 1; simp at k0 k1
  have e_0 : W3.cell? ⟨ge, 0, none⟩ = some (.int .i64 1) := l3.cell 0
  have e_1 : W3.cell? ⟨ge, 1, none⟩ = some (.int .i64 8) := l3.cell 1
  have e_2 : W3.cell? ⟨ge, 2, none⟩ = some (.int .i64 15) := l3.cell 2
  have e_3 : W3.cell? ⟨ge, 3, none⟩ = some (.int .i64 22) := l3.cell 3
  go_loop [59] (fun i => i = .int .i64 0 ∨ i = .int .i64 1 ∨ i = .int .i64 2 ∨ i = .int .i64 3 ∨ i = .int .i64 4) (fun i => 4 - (intOf i).toNat)
  case atStart => exact .inl rfl
  case round =>
    rcases hrel with rfl | rfl | rfl | rfl | rfl
    · go_wp2_with fail
      go_round
      case rel => exact .inr (.inl (by go_num))
      case measure => simp [intOf]
    · go_wp2_with fail
      go_round
      case rel => exact .inr (.inr (.inl (by go_num)))
      case measure => simp [intOf]
    · go_wp2_with fail
      go_round
      case rel => exact .inr (.inr (.inr (.inl (by go_num))))
      case measure => simp [intOf]
    · go_wp2_with fail
      go_round
      case rel => exact .inr (.inr (.inr (.inr (by go_num))))
      case measure => simp [intOf]
    · go_wp2_with (first | refine wpList_store_g rfl 24 _ _ rfl rfl (w.heap.size + 1) 0 #[.int .u16 0, .int .u16 0, .int .u16 0, .int .u16 0, .int .u16 0, .int .u16 0, .int .u16 0, .int .u16 0] #[.int .u16 0, .int .u16 0, .int .u16 0, .int .u16 0, .int .u16 0, .int .u16 0, .int .u16 0, .int .u16 0] rfl rfl _ _ z3 (by show 0 + 8 ≤ 8; decide) (by kernel_rfl) (by kernel_rfl) (by kernel_rfl) ?_)
      exact bodyPost_ret (res_ct rfl _ _ _ _ (sA St.nil) _ _ rfl rfl (Blk.row z3 _) Tryd.underlying24 rfl (by kernel_rfl)) rfl ⟨rfl, below_row b3 (by omega) _⟩
set_option maxRecDepth 100000 in
set_option maxHeartbeats 6400000 in
theorem rrule_3_0 (k n dw m s : Int) (w : World) (hk : 0 ≤ k) (hk1 : k = 3) (hn1 : n = 7) (hE : dE k n dw = 0) (h1 : ¬ m < 1) (h2 : ¬ 12 < m) (h3 : ¬ s < 0) (h4 : ¬ 86399 < s) (hdw : 0 ≤ dw ∧ dw ≤ 6)  :
    Calls Tryd.prog 66 #[dayV k n dw, .int .i64 m, .int .i64 s] w fun e w' => e = .returned (.tuple #[.agg #[.int .u16 0, .int .u16 m, .int .u16 dw, .int .u16 1, .int .u16 (s / 3600), .int .u16 (s / 60 % 60), .int .u16 (s % 60), .int .u16 0], .bool true]) ∧ Below w.heap.size w w' := by
  have b0 := ((Below.refl w.heap.size w).alloc (Nat.le_refl _) (.cells #[.int .u8 k, .int .i64 n, .int .i64 dw] 93)).alloc (by simp) (.cells #[.int .u16 0, .int .u16 0, .int .u16 0, .int .u16 0, .int .u16 0, .int .u16 0, .int .u16 0, .int .u16 0] 24)
  have d0 := (Blk.new w 93 #[.int .u8 k, .int .i64 n, .int .i64 dw]).alloc (.cells #[.int .u16 0, .int .u16 0, .int .u16 0, .int .u16 0, .int .u16 0, .int .u16 0, .int .u16 0, .int .u16 0] 24)
  have z0 := blk_at (w.alloc (.cells #[.int .u8 k, .int .i64 n, .int .i64 dw] 93)) 24 #[.int .u16 0, .int .u16 0, .int .u16 0, .int .u16 0, .int .u16 0, .int .u16 0, .int .u16 0, .int .u16 0] (sz1 w (.cells #[.int .u8 k, .int .i64 n, .int .i64 dw] 93) rfl)
  have hdc := fun w => rdchk_any k n dw w hk
  subst hk1; subst hn1
  rw [hE] at hdc; clear hE
  have a1 : IntKind.u16.wrap m = m := by simp [IntKind.wrap, IntKind.bits, IntKind.signed]; omega
  have a2 : IntKind.u16.wrap dw = dw := by simp [IntKind.wrap, IntKind.bits, IntKind.signed]; omega
  have e0 : s.tdiv 3600 = s / 3600 := Int.tdiv_eq_ediv_of_nonneg (by omega)
  have e1 : s.tdiv 60 = s / 60 := Int.tdiv_eq_ediv_of_nonneg (by omega)
  have e2 : s.tmod 60 = s % 60 := Int.tmod_eq_emod_of_nonneg (by omega)
  have e3 : (s / 60).tmod 60 = s / 60 % 60 := Int.tmod_eq_emod_of_nonneg (by omega)
  have g0 : IntKind.u16.wrap (s / 3600) = s / 3600 := by simp [IntKind.wrap, IntKind.bits, IntKind.signed]; omega
  have g1 : IntKind.u16.wrap (s / 60 % 60) = s / 60 % 60 := by simp [IntKind.wrap, IntKind.bits, IntKind.signed]; omega
  have g2 : IntKind.u16.wrap (s % 60) = s % 60 := by simp [IntKind.wrap, IntKind.bits, IntKind.signed]; omega
  go_enter Tryd.func66, Tryd.ntmps66
  go_wp2_with (refine wpList_row_g rfl 93 _ rfl _ rfl _ _ _ _ d0 Tryd.underlying93 rfl (by kernel_rfl) ?_)
  refine (hdc _).mono ?_; rintro e w1 ⟨rfl, hb1⟩
  have b1 := b0.trans (hb1.mono b0.size)
  have d1 := d0.below hb1 d0.lt
  have z1 := z0.below hb1 z0.lt
  clear b0 d0 z0 hb1 hdc
  have k2 := d1.cell 2; simp at k2
  have x2 := Blk.new w1 24 #[.int .u16 0, .int .u16 m, .int .u16 dw, .int .u16 0, .int .u16 (s / 3600), .int .u16 (s / 60 % 60), .int .u16 (s % 60), .int .u16 0]; have d2 := d1.alloc (.cells #[.int .u16 0, .int .u16 m, .int .u16 dw, .int .u16 0, .int .u16 (s / 3600), .int .u16 (s / 60 % 60), .int .u16 (s % 60), .int .u16 0] 24); have z2 := z1.alloc (.cells #[.int .u16 0, .int .u16 m, .int .u16 dw, .int .u16 0, .int .u16 (s / 3600), .int .u16 (s / 60 % 60), .int .u16 (s % 60), .int .u16 0] 24); have b2 := b1.alloc b1.size (.cells #[.int .u16 0, .int .u16 m, .int .u16 dw, .int .u16 0, .int .u16 (s / 3600), .int .u16 (s / 60 % 60), .int .u16 (s % 60), .int .u16 0] 24)
  have zs := z1.lt
  clear d1 z1 b1
  go_upto_region 4 with (first | refine wpList_store_new rfl 24 _ _ rfl rfl w1.heap.size #[.int .u16 0, .int .u16 m, .int .u16 dw, .int .u16 0, .int .u16 (s / 3600), .int .u16 (s / 60 % 60), .int .u16 (s % 60), .int .u16 0] rfl rfl _ #[.int .u16 0, .int .u16 0, .int .u16 0, .int .u16 0, .int .u16 0, .int .u16 0, .int .u16 0, .int .u16 0] w1 rfl rfl rfl (by kernel_rfl) (by kernel_rfl) ?_)
  generalize w1.alloc (.cells #[.int .u16 0, .int .u16 m, .int .u16 dw, .int .u16 0, .int .u16 (s / 3600), .int .u16 (s / 60 % 60), .int .u16 (s % 60), .int .u16 0] 24) = W at *
  generalize w1.heap.size = gs at *
  have k0 := d2.cell 0; have k1 := d2.cell 1; simp at k0 k1
  go_wp2_with fail
  have x3 := x2.alloc (.cells #[.int .i64 7, .int .i64 14, .int .i64 21, .int .i64 28] 3); have d3 := d2.alloc (.cells #[.int .i64 7, .int .i64 14, .int .i64 21, .int .i64 28] 3); have z3 := z2.alloc (.cells #[.int .i64 7, .int .i64 14, .int .i64 21, .int .i64 28] 3); have b3 := b2.alloc b2.size (.cells #[.int .i64 7, .int .i64 14, .int .i64 21, .int .i64 28] 3); have l3 := Blk.new W 3 #[.int .i64 7, .int .i64 14, .int .i64 21, .int .i64 28]
  clear x2 d2 z2 b2 k0 k1
  generalize W.alloc (.cells #[.int .i64 7, .int .i64 14, .int .i64 21, .int .i64 28] 3) = W3 at *
  generalize W.heap.size = ge at *
  have k0 := d3.cell 0; have k1 := d3.cell 1; simp at k0 k1
  have e_0 : W3.cell? ⟨ge, 0, none⟩ = some (.int .i64 7) := l3.cell 0
  have e_1 : W3.cell? ⟨ge, 1, none⟩ = some (.int .i64 14) := l3.cell 1
  have e_2 : W3.cell? ⟨ge, 2, none⟩ = some (.int .i64 21) := l3.cell 2
  have e_3 : W3.cell? ⟨ge, 3, none⟩ = some (.int .i64 28) := l3.cell 3
  go_loop [78] (fun i => i = .int .i64 0) (fun i => 4 - (intOf i).toNat)
  case atStart => rfl
  case round =>
    subst hrel
    have xx := x3.set_ 3 (.int .u16 1); simp only [List.setIfInBounds_toArray, List.set_cons_zero, List.set_cons_succ] at xx
    have zz := z3.far (p := ⟨gs, 3, none⟩) (show w.heap.size + 1 ≠ gs by omega) (.int .u16 1)
    have bb := b3.setCell (p := ⟨gs, 3, none⟩) (show w.heap.size ≤ gs by omega) (.int .u16 1)
    have c3 := x3.cell 3; have f3 := x3.frozen 3; simp at c3
    go_wp2_with (first | refine wpList_row_g rfl 24 _ rfl _ rfl _ _ _ _ xx Tryd.underlying24 rfl (by kernel_rfl) ?_ | refine wpList_store_g rfl 24 _ _ rfl rfl (w.heap.size + 1) 0 #[.int .u16 0, .int .u16 m, .int .u16 dw, .int .u16 1, .int .u16 (s / 3600), .int .u16 (s / 60 % 60), .int .u16 (s % 60), .int .u16 0] #[.int .u16 0, .int .u16 m, .int .u16 dw, .int .u16 1, .int .u16 (s / 3600), .int .u16 (s / 60 % 60), .int .u16 (s % 60), .int .u16 0] rfl rfl _ _ zz (by show 0 + 8 ≤ 8; decide) (by kernel_rfl) (by kernel_rfl) (by kernel_rfl) ?_)
    exact bodyPost_ret (res_ct rfl _ _ _ _ #[.int .u16 0, .int .u16 m, .int .u16 dw, .int .u16 1, .int .u16 (s / 3600), .int .u16 (s / 60 % 60), .int .u16 (s % 60), .int .u16 0] _ _ rfl rfl (Blk.row zz _) Tryd.underlying24 rfl (by kernel_rfl)) rfl ⟨rfl, below_row bb (by omega) _⟩
set_option maxRecDepth 100000 in
set_option maxHeartbeats 6400000 in
theorem rrule_3_1 (k n dw m s : Int) (w : World) (hk : 0 ≤ k) (hk1 : k = 3) (hn1 : n = 14) (hE : dE k n dw = 0) (h1 : ¬ m < 1) (h2 : ¬ 12 < m) (h3 : ¬ s < 0) (h4 : ¬ 86399 < s) (hdw : 0 ≤ dw ∧ dw ≤ 6)  :
    Calls Tryd.prog 66 #[dayV k n dw, .int .i64 m, .int .i64 s] w fun e w' => e = .returned (.tuple #[.agg #[.int .u16 0, .int .u16 m, .int .u16 dw, .int .u16 2, .int .u16 (s / 3600), .int .u16 (s / 60 % 60), .int .u16 (s % 60), .int .u16 0], .bool true]) ∧ Below w.heap.size w w' := by
  have b0 := ((Below.refl w.heap.size w).alloc (Nat.le_refl _) (.cells #[.int .u8 k, .int .i64 n, .int .i64 dw] 93)).alloc (by simp) (.cells #[.int .u16 0, .int .u16 0, .int .u16 0, .int .u16 0, .int .u16 0, .int .u16 0, .int .u16 0, .int .u16 0] 24)
  have d0 := (Blk.new w 93 #[.int .u8 k, .int .i64 n, .int .i64 dw]).alloc (.cells #[.int .u16 0, .int .u16 0, .int .u16 0, .int .u16 0, .int .u16 0, .int .u16 0, .int .u16 0, .int .u16 0] 24)
  have z0 := blk_at (w.alloc (.cells #[.int .u8 k, .int .i64 n, .int .i64 dw] 93)) 24 #[.int .u16 0, .int .u16 0, .int .u16 0, .int .u16 0, .int .u16 0, .int .u16 0, .int .u16 0, .int .u16 0] (sz1 w (.cells #[.int .u8 k, .int .i64 n, .int .i64 dw] 93) rfl)
  have hdc := fun w => rdchk_any k n dw w hk
  subst hk1; subst hn1
  rw [hE] at hdc; clear hE
  have a1 : IntKind.u16.wrap m = m := by simp [IntKind.wrap, IntKind.bits, IntKind.signed]; omega
  have a2 : IntKind.u16.wrap dw = dw := by simp [IntKind.wrap, IntKind.bits, IntKind.signed]; omega
  have e0 : s.tdiv 3600 = s / 3600 := Int.tdiv_eq_ediv_of_nonneg (by omega)
  have e1 : s.tdiv 60 = s / 60 := Int.tdiv_eq_ediv_of_nonneg (by omega)
  have e2 : s.tmod 60 = s % 60 := Int.tmod_eq_emod_of_nonneg (by omega)
  have e3 : (s / 60).tmod 60 = s / 60 % 60 := Int.tmod_eq_emod_of_nonneg (by omega)
  have g0 : IntKind.u16.wrap (s / 3600) = s / 3600 := by simp [IntKind.wrap, IntKind.bits, IntKind.signed]; omega
  have g1 : IntKind.u16.wrap (s / 60 % 60) = s / 60 % 60 := by simp [IntKind.wrap, IntKind.bits, IntKind.signed]; omega
  have g2 : IntKind.u16.wrap (s % 60) = s % 60 := by simp [IntKind.wrap, IntKind.bits, IntKind.signed]; omega
  go_enter Tryd.func66, Tryd.ntmps66
  go_wp2_with (refine wpList_row_g rfl 93 _ rfl _ rfl _ _ _ _ d0 Tryd.underlying93 rfl (by kernel_rfl) ?_)
  refine (hdc _).mono ?_; rintro e w1 ⟨rfl, hb1⟩
  have b1 := b0.trans (hb1.mono b0.size)
  have d1 := d0.below hb1 d0.lt
  have z1 := z0.below hb1 z0.lt
  clear b0 d0 z0 hb1 hdc
  have k2 := d1.cell 2; simp at k2
  have x2 := Blk.new w1 24 #[.int .u16 0, .int .u16 m, .int .u16 dw, .int .u16 0, .int .u16 (s / 3600), .int .u16 (s / 60 % 60), .int .u16 (s % 60), .int .u16 0]; have d2 := d1.alloc (.cells #[.int .u16 0, .int .u16 m, .int .u16 dw, .int .u16 0, .int .u16 (s / 3600), .int .u16 (s / 60 % 60), .int .u16 (s % 60), .int .u16 0] 24); have z2 := z1.alloc (.cells #[.int .u16 0, .int .u16 m, .int .u16 dw, .int .u16 0, .int .u16 (s / 3600), .int .u16 (s / 60 % 60), .int .u16 (s % 60), .int .u16 0] 24); have b2 := b1.alloc b1.size (.cells #[.int .u16 0, .int .u16 m, .int .u16 dw, .int .u16 0, .int .u16 (s / 3600), .int .u16 (s / 60 % 60), .int .u16 (s % 60), .int .u16 0] 24)
  have zs := z1.lt
  clear d1 z1 b1
  go_upto_region 4 with (first | refine wpList_store_new rfl 24 _ _ rfl rfl w1.heap.size #[.int .u16 0, .int .u16 m, .int .u16 dw, .int .u16 0, .int .u16 (s / 3600), .int .u16 (s / 60 % 60), .int .u16 (s % 60), .int .u16 0] rfl rfl _ #[.int .u16 0, .int .u16 0, .int .u16 0, .int .u16 0, .int .u16 0, .int .u16 0, .int .u16 0, .int .u16 0] w1 rfl rfl rfl (by kernel_rfl) (by kernel_rfl) ?_)
  generalize w1.alloc (.cells #[.int .u16 0, .int .u16 m, .int .u16 dw, .int .u16 0, .int .u16 (s / 3600), .int .u16 (s / 60 % 60), .int .u16 (s % 60), .int .u16 0] 24) = W at *
  generalize w1.heap.size = gs at *
  have k0 := d2.cell 0; have k1 := d2.cell 1; simp at k0 k1
  go_wp2_with fail
  have x3 := x2.alloc (.cells #[.int .i64 7, .int .i64 14, .int .i64 21, .int .i64 28] 3); have d3 := d2.alloc (.cells #[.int .i64 7, .int .i64 14, .int .i64 21, .int .i64 28] 3); have z3 := z2.alloc (.cells #[.int .i64 7, .int .i64 14, .int .i64 21, .int .i64 28] 3); have b3 := b2.alloc b2.size (.cells #[.int .i64 7, .int .i64 14, .int .i64 21, .int .i64 28] 3); have l3 := Blk.new W 3 #[.int .i64 7, .int .i64 14, .int .i64 21, .int .i64 28]
  clear x2 d2 z2 b2 k0 k1
  generalize W.alloc (.cells #[.int .i64 7, .int .i64 14, .int .i64 21, .int .i64 28] 3) = W3 at *
  generalize W.heap.size = ge at *
  have k0 := d3.cell 0; have k1 := d3.cell 1; simp at k0 k1
  have e_0 : W3.cell? ⟨ge, 0, none⟩ = some (.int .i64 7) := l3.cell 0
  have e_1 : W3.cell? ⟨ge, 1, none⟩ = some (.int .i64 14) := l3.cell 1
  have e_2 : W3.cell? ⟨ge, 2, none⟩ = some (.int .i64 21) := l3.cell 2
  have e_3 : W3.cell? ⟨ge, 3, none⟩ = some (.int .i64 28) := l3.cell 3
  go_loop [78] (fun i => i = .int .i64 0 ∨ i = .int .i64 1) (fun i => 4 - (intOf i).toNat)
  case atStart => exact .inl rfl
  case round =>
    rcases hrel with rfl | rfl
    · go_wp2_with fail
      go_round
      case rel => exact .inr (by go_num)
      case measure => simp [intOf]
    · skip
      have xx := x3.set_ 3 (.int .u16 2); simp only [List.setIfInBounds_toArray, List.set_cons_zero, List.set_cons_succ] at xx
      have zz := z3.far (p := ⟨gs, 3, none⟩) (show w.heap.size + 1 ≠ gs by omega) (.int .u16 2)
      have bb := b3.setCell (p := ⟨gs, 3, none⟩) (show w.heap.size ≤ gs by omega) (.int .u16 2)
      have c3 := x3.cell 3; have f3 := x3.frozen 3; simp at c3
      go_wp2_with (first | refine wpList_row_g rfl 24 _ rfl _ rfl _ _ _ _ xx Tryd.underlying24 rfl (by kernel_rfl) ?_ | refine wpList_store_g rfl 24 _ _ rfl rfl (w.heap.size + 1) 0 #[.int .u16 0, .int .u16 m, .int .u16 dw, .int .u16 2, .int .u16 (s / 3600), .int .u16 (s / 60 % 60), .int .u16 (s % 60), .int .u16 0] #[.int .u16 0, .int .u16 m, .int .u16 dw, .int .u16 2, .int .u16 (s / 3600), .int .u16 (s / 60 % 60), .int .u16 (s % 60), .int .u16 0] rfl rfl _ _ zz (by show 0 + 8 ≤ 8; decide) (by kernel_rfl) (by kernel_rfl) (by kernel_rfl) ?_)
      exact bodyPost_ret (res_ct rfl _ _ _ _ #[.int .u16 0, .int .u16 m, .int .u16 dw, .int .u16 2, .int .u16 (s / 3600), .int .u16 (s / 60 % 60), .int .u16 (s % 60), .int .u16 0] _ _ rfl rfl (Blk.row zz _) Tryd.underlying24 rfl (by kernel_rfl)) rfl ⟨rfl, below_row bb (by omega) _⟩
set_option maxRecDepth 100000 in
set_option maxHeartbeats 6400000 in
theorem rrule_3_2 (k n dw m s : Int) (w : World) (hk : 0 ≤ k) (hk1 : k = 3) (hn1 : n = 21) (hE : dE k n dw = 0) (h1 : ¬ m < 1) (h2 : ¬ 12 < m) (h3 : ¬ s < 0) (h4 : ¬ 86399 < s) (hdw : 0 ≤ dw ∧ dw ≤ 6)  :
    Calls Tryd.prog 66 #[dayV k n dw, .int .i64 m, .int .i64 s] w fun e w' => e = .returned (.tuple #[.agg #[.int .u16 0, .int .u16 m, .int .u16 dw, .int .u16 3, .int .u16 (s / 3600), .int .u16 (s / 60 % 60), .int .u16 (s % 60), .int .u16 0], .bool true]) ∧ Below w.heap.size w w' := by
  have b0 := ((Below.refl w.heap.size w).alloc (Nat.le_refl _) (.cells #[.int .u8 k, .int .i64 n, .int .i64 dw] 93)).alloc (by simp) (.cells #[.int .u16 0, .int .u16 0, .int .u16 0, .int .u16 0, .int .u16 0, .int .u16 0, .int .u16 0, .int .u16 0] 24)
  have d0 := (Blk.new w 93 #[.int .u8 k, .int .i64 n, .int .i64 dw]).alloc (.cells #[.int .u16 0, .int .u16 0, .int .u16 0, .int .u16 0, .int .u16 0, .int .u16 0, .int .u16 0, .int .u16 0] 24)
  have z0 := blk_at (w.alloc (.cells #[.int .u8 k, .int .i64 n, .int .i64 dw] 93)) 24 #[.int .u16 0, .int .u16 0, .int .u16 0, .int .u16 0, .int .u16 0, .int .u16 0, .int .u16 0, .int .u16 0] (sz1 w (.cells #[.int .u8 k, .int .i64 n, .int .i64 dw] 93) rfl)
  have hdc := fun w => rdchk_any k n dw w hk
  subst hk1; subst hn1
  rw [hE] at hdc; clear hE
  have a1 : IntKind.u16.wrap m = m := by simp [IntKind.wrap, IntKind.bits, IntKind.signed]; omega
  have a2 : IntKind.u16.wrap dw = dw := by simp [IntKind.wrap, IntKind.bits, IntKind.signed]; omega
  have e0 : s.tdiv 3600 = s / 3600 := Int.tdiv_eq_ediv_of_nonneg (by omega)
  have e1 : s.tdiv 60 = s / 60 := Int.tdiv_eq_ediv_of_nonneg (by omega)
  have e2 : s.tmod 60 = s % 60 := Int.tmod_eq_emod_of_nonneg (by omega)
  have e3 : (s / 60).tmod 60 = s / 60 % 60 := Int.tmod_eq_emod_of_nonneg (by omega)
  have g0 : IntKind.u16.wrap (s / 3600) = s / 3600 := by simp [IntKind.wrap, IntKind.bits, IntKind.signed]; omega
  have g1 : IntKind.u16.wrap (s / 60 % 60) = s / 60 % 60 := by simp [IntKind.wrap, IntKind.bits, IntKind.signed]; omega
  have g2 : IntKind.u16.wrap (s % 60) = s % 60 := by simp [IntKind.wrap, IntKind.bits, IntKind.signed]; omega
  go_enter Tryd.func66, Tryd.ntmps66
  go_wp2_with (refine wpList_row_g rfl 93 _ rfl _ rfl _ _ _ _ d0 Tryd.underlying93 rfl (by kernel_rfl) ?_)
  refine (hdc _).mono ?_; rintro e w1 ⟨rfl, hb1⟩
  have b1 := b0.trans (hb1.mono b0.size)
  have d1 := d0.below hb1 d0.lt
  have z1 := z0.below hb1 z0.lt
  clear b0 d0 z0 hb1 hdc
  have k2 := d1.cell 2; simp at k2
  have x2 := Blk.new w1 24 #[.int .u16 0, .int .u16 m, .int .u16 dw, .int .u16 0, .int .u16 (s / 3600), .int .u16 (s / 60 % 60), .int .u16 (s % 60), .int .u16 0]; have d2 := d1.alloc (.cells #[.int .u16 0, .int .u16 m, .int .u16 dw, .int .u16 0, .int .u16 (s / 3600), .int .u16 (s / 60 % 60), .int .u16 (s % 60), .int .u16 0] 24); have z2 := z1.alloc (.cells #[.int .u16 0, .int .u16 m, .int .u16 dw, .int .u16 0, .int .u16 (s / 3600), .int .u16 (s / 60 % 60), .int .u16 (s % 60), .int .u16 0] 24); have b2 := b1.alloc b1.size (.cells #[.int .u16 0, .int .u16 m, .int .u16 dw, .int .u16 0, .int .u16 (s / 3600), .int .u16 (s / 60 % 60), .int .u16 (s % 60), .int .u16 0] 24)
  have zs := z1.lt
  clear d1 z1 b1
  go_upto_region 4 with (first | refine wpList_store_new rfl 24 _ _ rfl rfl w1.heap.size #[.int .u16 0, .int .u16 m, .int .u16 dw, .int .u16 0, .int .u16 (s / 3600), .int .u16 (s / 60 % 60), .int .u16 (s % 60), .int .u16 0] rfl rfl _ #[.int .u16 0, .int .u16 0, .int .u16 0, .int .u16 0, .int .u16 0, .int .u16 0, .int .u16 0, .int .u16 0] w1 rfl rfl rfl (by kernel_rfl) (by kernel_rfl) ?_)
  generalize w1.alloc (.cells #[.int .u16 0, .int .u16 m, .int .u16 dw, .int .u16 0, .int .u16 (s / 3600), .int .u16 (s / 60 % 60), .int .u16 (s % 60), .int .u16 0] 24) = W at *
  generalize w1.heap.size = gs at *
  have k0 := d2.cell 0; have k1 := d2.cell 1; simp at k0 k1
  go_wp2_with fail
  have x3 := x2.alloc (.cells #[.int .i64 7, .int .i64 14, .int .i64 21, .int .i64 28] 3); have d3 := d2.alloc (.cells #[.int .i64 7, .int .i64 14, .int .i64 21, .int .i64 28] 3); have z3 := z2.alloc (.cells #[.int .i64 7, .int .i64 14, .int .i64 21, .int .i64 28] 3); have b3 := b2.alloc b2.size (.cells #[.int .i64 7, .int .i64 14, .int .i64 21, .int .i64 28] 3); have l3 := Blk.new W 3 #[.int .i64 7, .int .i64 14, .int .i64 21, .int .i64 28]
  clear x2 d2 z2 b2 k0 k1
  generalize W.alloc (.cells #[.int .i64 7, .int .i64 14, .int .i64 21, .int .i64 28] 3) = W3 at *
  generalize W.heap.size = ge at *
  have k0 := d3.cell 0; have k1 := d3.cell 1; simp at k0 k1
  have e_0 : W3.cell? ⟨ge, 0, none⟩ = some (.int .i64 7) := l3.cell 0
  have e_1 : W3.cell? ⟨ge, 1, none⟩ = some (.int .i64 14) := l3.cell 1
  have e_2 : W3.cell? ⟨ge, 2, none⟩ = some (.int .i64 21) := l3.cell 2
  have e_3 : W3.cell? ⟨ge, 3, none⟩ = some (.int .i64 28) := l3.cell 3
  go_loop [78] (fun i => i = .int .i64 0 ∨ i = .int .i64 1 ∨ i = .int .i64 2) (fun i => 4 - (intOf i).toNat)
  case atStart => exact .inl rfl
  case round =>
    rcases hrel with rfl | rfl | rfl
    · go_wp2_with fail
      go_round
      case rel => exact .inr (.inl (by go_num))
      case measure => simp [intOf]
    · go_wp2_with fail
      go_round
      case rel => exact .inr (.inr (by go_num))
      case measure => simp [intOf]
    · skip
      have xx := x3.set_ 3 (.int .u16 3); simp only [List.setIfInBounds_toArray, List.set_cons_zero, List.set_cons_succ] at xx
      have zz := z3.far (p := ⟨gs, 3, none⟩) (show w.heap.size + 1 ≠ gs by omega) (.int .u16 3)
      have bb := b3.setCell (p := ⟨gs, 3, none⟩) (show w.heap.size ≤ gs by omega) (.int .u16 3)
      have c3 := x3.cell 3; have f3 := x3.frozen 3; simp at c3
      go_wp2_with (first | refine wpList_row_g rfl 24 _ rfl _ rfl _ _ _ _ xx Tryd.underlying24 rfl (by kernel_rfl) ?_ | refine wpList_store_g rfl 24 _ _ rfl rfl (w.heap.size + 1) 0 #[.int .u16 0, .int .u16 m, .int .u16 dw, .int .u16 3, .int .u16 (s / 3600), .int .u16 (s / 60 % 60), .int .u16 (s % 60), .int .u16 0] #[.int .u16 0, .int .u16 m, .int .u16 dw, .int .u16 3, .int .u16 (s / 3600), .int .u16 (s / 60 % 60), .int .u16 (s % 60), .int .u16 0] rfl rfl _ _ zz (by show 0 + 8 ≤ 8; decide) (by kernel_rfl) (by kernel_rfl) (by kernel_rfl) ?_)
      exact bodyPost_ret (res_ct rfl _ _ _ _ #[.int .u16 0, .int .u16 m, .int .u16 dw, .int .u16 3, .int .u16 (s / 3600), .int .u16 (s / 60 % 60), .int .u16 (s % 60), .int .u16 0] _ _ rfl rfl (Blk.row zz _) Tryd.underlying24 rfl (by kernel_rfl)) rfl ⟨rfl, below_row bb (by omega) _⟩
set_option maxRecDepth 100000 in
set_option maxHeartbeats 6400000 in
theorem rrule_3_3 (k n dw m s : Int) (w : World) (hk : 0 ≤ k) (hk1 : k = 3) (hn1 : n = 28) (hE : dE k n dw = 0) (h1 : ¬ m < 1) (h2 : ¬ 12 < m) (h3 : ¬ s < 0) (h4 : ¬ 86399 < s) (hdw : 0 ≤ dw ∧ dw ≤ 6)  :
    Calls Tryd.prog 66 #[dayV k n dw, .int .i64 m, .int .i64 s] w fun e w' => e = .returned (.tuple #[.agg #[.int .u16 0, .int .u16 m, .int .u16 dw, .int .u16 4, .int .u16 (s / 3600), .int .u16 (s / 60 % 60), .int .u16 (s % 60), .int .u16 0], .bool true]) ∧ Below w.heap.size w w' := by
  have b0 := ((Below.refl w.heap.size w).alloc (Nat.le_refl _) (.cells #[.int .u8 k, .int .i64 n, .int .i64 dw] 93)).alloc (by simp) (.cells #[.int .u16 0, .int .u16 0, .int .u16 0, .int .u16 0, .int .u16 0, .int .u16 0, .int .u16 0, .int .u16 0] 24)
  have d0 := (Blk.new w 93 #[.int .u8 k, .int .i64 n, .int .i64 dw]).alloc (.cells #[.int .u16 0, .int .u16 0, .int .u16 0, .int .u16 0, .int .u16 0, .int .u16 0, .int .u16 0, .int .u16 0] 24)
  have z0 := blk_at (w.alloc (.cells #[.int .u8 k, .int .i64 n, .int .i64 dw] 93)) 24 #[.int .u16 0, .int .u16 0, .int .u16 0, .int .u16 0, .int .u16 0, .int .u16 0, .int .u16 0, .int .u16 0] (sz1 w (.cells #[.int .u8 k, .int .i64 n, .int .i64 dw] 93) rfl)
  have hdc := fun w => rdchk_any k n dw w hk
  subst hk1; subst hn1
  rw [hE] at hdc; clear hE
  have a1 : IntKind.u16.wrap m = m := by simp [IntKind.wrap, IntKind.bits, IntKind.signed]; omega
  have a2 : IntKind.u16.wrap dw = dw := by simp [IntKind.wrap, IntKind.bits, IntKind.signed]; omega
  have e0 : s.tdiv 3600 = s / 3600 := Int.tdiv_eq_ediv_of_nonneg (by omega)
  have e1 : s.tdiv 60 = s / 60 := Int.tdiv_eq_ediv_of_nonneg (by omega)
  have e2 : s.tmod 60 = s % 60 := Int.tmod_eq_emod_of_nonneg (by omega)
  have e3 : (s / 60).tmod 60 = s / 60 % 60 := Int.tmod_eq_emod_of_nonneg (by omega)
  have g0 : IntKind.u16.wrap (s / 3600) = s / 3600 := by simp [IntKind.wrap, IntKind.bits, IntKind.signed]; omega
  have g1 : IntKind.u16.wrap (s / 60 % 60) = s / 60 % 60 := by simp [IntKind.wrap, IntKind.bits, IntKind.signed]; omega
  have g2 : IntKind.u16.wrap (s % 60) = s % 60 := by simp [IntKind.wrap, IntKind.bits, IntKind.signed]; omega
  go_enter Tryd.func66, Tryd.ntmps66
  go_wp2_with (refine wpList_row_g rfl 93 _ rfl _ rfl _ _ _ _ d0 Tryd.underlying93 rfl (by kernel_rfl) ?_)
  refine (hdc _).mono ?_; rintro e w1 ⟨rfl, hb1⟩
  have b1 := b0.trans (hb1.mono b0.size)
  have d1 := d0.below hb1 d0.lt
  have z1 := z0.below hb1 z0.lt
  clear b0 d0 z0 hb1 hdc
  have k2 := d1.cell 2; simp at k2
  have x2 := Blk.new w1 24 #[.int .u16 0, .int .u16 m, .int .u16 dw, .int .u16 0, .int .u16 (s / 3600), .int .u16 (s / 60 % 60), .int .u16 (s % 60), .int .u16 0]; have d2 := d1.alloc (.cells #[.int .u16 0, .int .u16 m, .int .u16 dw, .int .u16 0, .int .u16 (s / 3600), .int .u16 (s / 60 % 60), .int .u16 (s % 60), .int .u16 0] 24); have z2 := z1.alloc (.cells #[.int .u16 0, .int .u16 m, .int .u16 dw, .int .u16 0, .int .u16 (s / 3600), .int .u16 (s / 60 % 60), .int .u16 (s % 60), .int .u16 0] 24); have b2 := b1.alloc b1.size (.cells #[.int .u16 0, .int .u16 m, .int .u16 dw, .int .u16 0, .int .u16 (s / 3600), .int .u16 (s / 60 % 60), .int .u16 (s % 60), .int .u16 0] 24)
  have zs := z1.lt
  clear d1 z1 b1
  go_upto_region 4 with (first | refine wpList_store_new rfl 24 _ _ rfl rfl w1.heap.size #[.int .u16 0, .int .u16 m, .int .u16 dw, .int .u16 0, .int .u16 (s / 3600), .int .u16 (s / 60 % 60), .int .u16 (s % 60), .int .u16 0] rfl rfl _ #[.int .u16 0, .int .u16 0, .int .u16 0, .int .u16 0, .int .u16 0, .int .u16 0, .int .u16 0, .int .u16 0] w1 rfl rfl rfl (by kernel_rfl) (by kernel_rfl) ?_)
  generalize w1.alloc (.cells #[.int .u16 0, .int .u16 m, .int .u16 dw, .int .u16 0, .int .u16 (s / 3600), .int .u16 (s / 60 % 60), .int .u16 (s % 60), .int .u16 0] 24) = W at *
  generalize w1.heap.size = gs at *
  have k0 := d2.cell 0; have k1 := d2.cell 1; simp at k0 k1
  go_wp2_with fail
  have x3 := x2.alloc (.cells #[.int .i64 7, .int .i64 14, .int .i64 21, .int .i64 28] 3); have d3 := d2.alloc (.cells #[.int .i64 7, .int .i64 14, .int .i64 21, .int .i64 28] 3); have z3 := z2.alloc (.cells #[.int .i64 7, .int .i64 14, .int .i64 21, .int .i64 28] 3); have b3 := b2.alloc b2.size (.cells #[.int .i64 7, .int .i64 14, .int .i64 21, .int .i64 28] 3); have l3 := Blk.new W 3 #[.int .i64 7, .int .i64 14, .int .i64 21, .int .i64 28]
  clear x2 d2 z2 b2 k0 k1
  generalize W.alloc (.cells #[.int .i64 7, .int .i64 14, .int .i64 21, .int .i64 28] 3) = W3 at *
  generalize W.heap.size = ge at *
  have k0 := d3.cell 0; have k1 := d3.cell 1; simp at k0 k1
  have e_0 : W3.cell? ⟨ge, 0, none⟩ = some (.int .i64 7) := l3.cell 0
  have e_1 : W3.cell? ⟨ge, 1, none⟩ = some (.int .i64 14) := l3.cell 1
  have e_2 : W3.cell? ⟨ge, 2, none⟩ = some (.int .i64 21) := l3.cell 2
  have e_3 : W3.cell? ⟨ge, 3, none⟩ = some (.int .i64 28) := l3.cell 3
  go_loop [78] (fun i => i = .int .i64 0 ∨ i = .int .i64 1 ∨ i = .int .i64 2 ∨ i = .int .i64 3) (fun i => 4 - (intOf i).toNat)
  case atStart => exact .inl rfl
  case round =>
    rcases hrel with rfl | rfl | rfl | rfl
    · go_wp2_with fail
      go_round
      case rel => exact .inr (.inl (by go_num))
      case measure => simp [intOf]
    · go_wp2_with fail
      go_round
      case rel => exact .inr (.inr (.inl (by go_num)))
      case measure => simp [intOf]
    · go_wp2_with fail
      go_round
      case rel => exact .inr (.inr (.inr (by go_num)))
      case measure => simp [intOf]
    · skip
      have xx := x3.set_ 3 (.int .u16 4); simp only [List.setIfInBounds_toArray, List.set_cons_zero, List.set_cons_succ] at xx
      have zz := z3.far (p := ⟨gs, 3, none⟩) (show w.heap.size + 1 ≠ gs by omega) (.int .u16 4)
      have bb := b3.setCell (p := ⟨gs, 3, none⟩) (show w.heap.size ≤ gs by omega) (.int .u16 4)
      have c3 := x3.cell 3; have f3 := x3.frozen 3; simp at c3
      go_wp2_with (first | refine wpList_row_g rfl 24 _ rfl _ rfl _ _ _ _ xx Tryd.underlying24 rfl (by kernel_rfl) ?_ | refine wpList_store_g rfl 24 _ _ rfl rfl (w.heap.size + 1) 0 #[.int .u16 0, .int .u16 m, .int .u16 dw, .int .u16 4, .int .u16 (s / 3600), .int .u16 (s / 60 % 60), .int .u16 (s % 60), .int .u16 0] #[.int .u16 0, .int .u16 m, .int .u16 dw, .int .u16 4, .int .u16 (s / 3600), .int .u16 (s / 60 % 60), .int .u16 (s % 60), .int .u16 0] rfl rfl _ _ zz (by show 0 + 8 ≤ 8; decide) (by kernel_rfl) (by kernel_rfl) (by kernel_rfl) ?_)
      exact bodyPost_ret (res_ct rfl _ _ _ _ #[.int .u16 0, .int .u16 m, .int .u16 dw, .int .u16 4, .int .u16 (s / 3600), .int .u16 (s / 60 % 60), .int .u16 (s % 60), .int .u16 0] _ _ rfl rfl (Blk.row zz _) Tryd.underlying24 rfl (by kernel_rfl)) rfl ⟨rfl, below_row bb (by omega) _⟩
set_option maxRecDepth 100000 in
set_option maxHeartbeats 6400000 in
theorem rrule_3_no (k n dw m s : Int) (w : World) (hk : 0 ≤ k) (hk1 : k = 3) (n7 : n ≠ 7) (n14 : n ≠ 14) (n21 : n ≠ 21) (n28 : n ≠ 28) (hE : dE k n dw = 0) (h1 : ¬ m < 1) (h2 : ¬ 12 < m) (h3 : ¬ s < 0) (h4 : ¬ 86399 < s) (hdw : 0 ≤ dw ∧ dw ≤ 6)  :
    Calls Tryd.prog 66 #[dayV k n dw, .int .i64 m, .int .i64 s] w fun e w' => e = .returned (.tuple #[.agg (sA St.nil), .bool false]) ∧ Below w.heap.size w w' := by
  have b0 := ((Below.refl w.heap.size w).alloc (Nat.le_refl _) (.cells #[.int .u8 k, .int .i64 n, .int .i64 dw] 93)).alloc (by simp) (.cells #[.int .u16 0, .int .u16 0, .int .u16 0, .int .u16 0, .int .u16 0, .int .u16 0, .int .u16 0, .int .u16 0] 24)
  have d0 := (Blk.new w 93 #[.int .u8 k, .int .i64 n, .int .i64 dw]).alloc (.cells #[.int .u16 0, .int .u16 0, .int .u16 0, .int .u16 0, .int .u16 0, .int .u16 0, .int .u16 0, .int .u16 0] 24)
  have z0 := blk_at (w.alloc (.cells #[.int .u8 k, .int .i64 n, .int .i64 dw] 93)) 24 #[.int .u16 0, .int .u16 0, .int .u16 0, .int .u16 0, .int .u16 0, .int .u16 0, .int .u16 0, .int .u16 0] (sz1 w (.cells #[.int .u8 k, .int .i64 n, .int .i64 dw] 93) rfl)
  have hdc := fun w => rdchk_any k n dw w hk
  subst hk1
  have f7 : (n == 7) = false := by rw [beq_eq_false_iff_ne]; exact n7
  have f14 : (n == 14) = false := by rw [beq_eq_false_iff_ne]; exact n14
  have f21 : (n == 21) = false := by rw [beq_eq_false_iff_ne]; exact n21
  have f28 : (n == 28) = false := by rw [beq_eq_false_iff_ne]; exact n28
  clear n7 n14 n21 n28
  rw [hE] at hdc; clear hE
  have a1 : IntKind.u16.wrap m = m := by simp [IntKind.wrap, IntKind.bits, IntKind.signed]; omega
  have a2 : IntKind.u16.wrap dw = dw := by simp [IntKind.wrap, IntKind.bits, IntKind.signed]; omega
  have e0 : s.tdiv 3600 = s / 3600 := Int.tdiv_eq_ediv_of_nonneg (by omega)
  have e1 : s.tdiv 60 = s / 60 := Int.tdiv_eq_ediv_of_nonneg (by omega)
  have e2 : s.tmod 60 = s % 60 := Int.tmod_eq_emod_of_nonneg (by omega)
  have e3 : (s / 60).tmod 60 = s / 60 % 60 := Int.tmod_eq_emod_of_nonneg (by omega)
  have g0 : IntKind.u16.wrap (s / 3600) = s / 3600 := by simp [IntKind.wrap, IntKind.bits, IntKind.signed]; omega
  have g1 : IntKind.u16.wrap (s / 60 % 60) = s / 60 % 60 := by simp [IntKind.wrap, IntKind.bits, IntKind.signed]; omega
  have g2 : IntKind.u16.wrap (s % 60) = s % 60 := by simp [IntKind.wrap, IntKind.bits, IntKind.signed]; omega
  go_enter Tryd.func66, Tryd.ntmps66
  go_wp2_with (refine wpList_row_g rfl 93 _ rfl _ rfl _ _ _ _ d0 Tryd.underlying93 rfl (by kernel_rfl) ?_)
  refine (hdc _).mono ?_; rintro e w1 ⟨rfl, hb1⟩
  have b1 := b0.trans (hb1.mono b0.size)
  have d1 := d0.below hb1 d0.lt
  have z1 := z0.below hb1 z0.lt
  clear b0 d0 z0 hb1 hdc
  have k2 := d1.cell 2; simp at k2
  have x2 := Blk.new w1 24 #[.int .u16 0, .int .u16 m, .int .u16 dw, .int .u16 0, .int .u16 (s / 3600), .int .u16 (s / 60 % 60), .int .u16 (s % 60), .int .u16 0]; have d2 := d1.alloc (.cells #[.int .u16 0, .int .u16 m, .int .u16 dw, .int .u16 0, .int .u16 (s / 3600), .int .u16 (s / 60 % 60), .int .u16 (s % 60), .int .u16 0] 24); have z2 := z1.alloc (.cells #[.int .u16 0, .int .u16 m, .int .u16 dw, .int .u16 0, .int .u16 (s / 3600), .int .u16 (s / 60 % 60), .int .u16 (s % 60), .int .u16 0] 24); have b2 := b1.alloc b1.size (.cells #[.int .u16 0, .int .u16 m, .int .u16 dw, .int .u16 0, .int .u16 (s / 3600), .int .u16 (s / 60 % 60), .int .u16 (s % 60), .int .u16 0] 24)
  have zs := z1.lt
  clear d1 z1 b1
  go_upto_region 4 with (first | refine wpList_store_new rfl 24 _ _ rfl rfl w1.heap.size #[.int .u16 0, .int .u16 m, .int .u16 dw, .int .u16 0, .int .u16 (s / 3600), .int .u16 (s / 60 % 60), .int .u16 (s % 60), .int .u16 0] rfl rfl _ #[.int .u16 0, .int .u16 0, .int .u16 0, .int .u16 0, .int .u16 0, .int .u16 0, .int .u16 0, .int .u16 0] w1 rfl rfl rfl (by kernel_rfl) (by kernel_rfl) ?_)
  generalize w1.alloc (.cells #[.int .u16 0, .int .u16 m, .int .u16 dw, .int .u16 0, .int .u16 (s / 3600), .int .u16 (s / 60 % 60), .int .u16 (s % 60), .int .u16 0] 24) = W at *
  generalize w1.heap.size = gs at *
  have k0 := d2.cell 0; have k1 := d2.cell 1; simp at k0 k1
  go_wp2_with fail
  have x3 := x2.alloc (.cells #[.int .i64 7, .int .i64 14, .int .i64 21, .int .i64 28] 3); have d3 := d2.alloc (.cells #[.int .i64 7, .int .i64 14, .int .i64 21, .int .i64 28] 3); have z3 := z2.alloc (.cells #[.int .i64 7, .int .i64 14, .int .i64 21, .int .i64 28] 3); have b3 := b2.alloc b2.size (.cells #[.int .i64 7, .int .i64 14, .int .i64 21, .int .i64 28] 3); have l3 := Blk.new W 3 #[.int .i64 7, .int .i64 14, .int .i64 21, .int .i64 28]
  clear x2 d2 z2 b2 k0 k1
  generalize W.alloc (.cells #[.int .i64 7, .int .i64 14, .int .i64 21, .int .i64 28] 3) = W3 at *
  generalize W.heap.size = ge at *
  have k0 := d3.cell 0; have k1 := d3.cell 1; simp at k0 k1
  have e_0 : W3.cell? ⟨ge, 0, none⟩ = some (.int .i64 7) := l3.cell 0
  have e_1 : W3.cell? ⟨ge, 1, none⟩ = some (.int .i64 14) := l3.cell 1
  have e_2 : W3.cell? ⟨ge, 2, none⟩ = some (.int .i64 21) := l3.cell 2
  have e_3 : W3.cell? ⟨ge, 3, none⟩ = some (.int .i64 28) := l3.cell 3
  go_loop [78] (fun i => i = .int .i64 0 ∨ i = .int .i64 1 ∨ i = .int .i64 2 ∨ i = .int .i64 3 ∨ i = .int .i64 4) (fun i => 4 - (intOf i).toNat)
  case atStart => exact .inl rfl
  case round =>
    rcases hrel with rfl | rfl | rfl | rfl | rfl
    · go_wp2_with fail
      go_round
      case rel => exact .inr (.inl (by go_num))
      case measure => simp [intOf]
    · go_wp2_with fail
      go_round
      case rel => exact .inr (.inr (.inl (by go_num)))
      case measure => simp [intOf]
    · go_wp2_with fail
      go_round
      case rel => exact .inr (.inr (.inr (.inl (by go_num))))
      case measure => simp [intOf]
    · go_wp2_with fail
      go_round
      case rel => exact .inr (.inr (.inr (.inr (by go_num))))
      case measure => simp [intOf]
    · go_wp2_with (first | refine wpList_store_g rfl 24 _ _ rfl rfl (w.heap.size + 1) 0 #[.int .u16 0, .int .u16 0, .int .u16 0, .int .u16 0, .int .u16 0, .int .u16 0, .int .u16 0, .int .u16 0] #[.int .u16 0, .int .u16 0, .int .u16 0, .int .u16 0, .int .u16 0, .int .u16 0, .int .u16 0, .int .u16 0] rfl rfl _ _ z3 (by show 0 + 8 ≤ 8; decide) (by kernel_rfl) (by kernel_rfl) (by kernel_rfl) ?_)
      exact bodyPost_ret (res_ct rfl _ _ _ _ (sA St.nil) _ _ rfl rfl (Blk.row z3 _) Tryd.underlying24 rfl (by kernel_rfl)) rfl ⟨rfl, below_row b3 (by omega) _⟩
set_option maxRecDepth 100000 in
set_option maxHeartbeats 6400000 in
theorem rrule_0 (k n dw m s : Int) (w : World) (hk : 0 ≤ k) (hk1 : k = 0) (hE : dE k n dw = 0) (h1 : ¬ m < 1) (h2 : ¬ 12 < m) (h3 : ¬ s < 0) (h4 : ¬ 86399 < s) (hdw : 0 ≤ dw ∧ dw ≤ 6)  :
    Calls Tryd.prog 66 #[dayV k n dw, .int .i64 m, .int .i64 s] w fun e w' => e = .returned (.tuple #[.agg (sA St.nil), .bool false]) ∧ Below w.heap.size w w' := by
  have b0 := ((Below.refl w.heap.size w).alloc (Nat.le_refl _) (.cells #[.int .u8 k, .int .i64 n, .int .i64 dw] 93)).alloc (by simp) (.cells #[.int .u16 0, .int .u16 0, .int .u16 0, .int .u16 0, .int .u16 0, .int .u16 0, .int .u16 0, .int .u16 0] 24)
  have d0 := (Blk.new w 93 #[.int .u8 k, .int .i64 n, .int .i64 dw]).alloc (.cells #[.int .u16 0, .int .u16 0, .int .u16 0, .int .u16 0, .int .u16 0, .int .u16 0, .int .u16 0, .int .u16 0] 24)
  have z0 := blk_at (w.alloc (.cells #[.int .u8 k, .int .i64 n, .int .i64 dw] 93)) 24 #[.int .u16 0, .int .u16 0, .int .u16 0, .int .u16 0, .int .u16 0, .int .u16 0, .int .u16 0, .int .u16 0] (sz1 w (.cells #[.int .u8 k, .int .i64 n, .int .i64 dw] 93) rfl)
  have hdc := fun w => rdchk_any k n dw w hk
  subst hk1
  rw [hE] at hdc; clear hE
  have a1 : IntKind.u16.wrap m = m := by simp [IntKind.wrap, IntKind.bits, IntKind.signed]; omega
  have a2 : IntKind.u16.wrap dw = dw := by simp [IntKind.wrap, IntKind.bits, IntKind.signed]; omega
  have e0 : s.tdiv 3600 = s / 3600 := Int.tdiv_eq_ediv_of_nonneg (by omega)
  have e1 : s.tdiv 60 = s / 60 := Int.tdiv_eq_ediv_of_nonneg (by omega)
  have e2 : s.tmod 60 = s % 60 := Int.tmod_eq_emod_of_nonneg (by omega)
  have e3 : (s / 60).tmod 60 = s / 60 % 60 := Int.tmod_eq_emod_of_nonneg (by omega)
  have g0 : IntKind.u16.wrap (s / 3600) = s / 3600 := by simp [IntKind.wrap, IntKind.bits, IntKind.signed]; omega
  have g1 : IntKind.u16.wrap (s / 60 % 60) = s / 60 % 60 := by simp [IntKind.wrap, IntKind.bits, IntKind.signed]; omega
  have g2 : IntKind.u16.wrap (s % 60) = s % 60 := by simp [IntKind.wrap, IntKind.bits, IntKind.signed]; omega
  go_enter Tryd.func66, Tryd.ntmps66
  go_wp2_with (refine wpList_row_g rfl 93 _ rfl _ rfl _ _ _ _ d0 Tryd.underlying93 rfl (by kernel_rfl) ?_)
  refine (hdc _).mono ?_; rintro e w1 ⟨rfl, hb1⟩
  have b1 := b0.trans (hb1.mono b0.size)
  have d1 := d0.below hb1 d0.lt
  have z1 := z0.below hb1 z0.lt
  clear b0 d0 z0 hb1 hdc
  have k2 := d1.cell 2; simp at k2
  have x2 := Blk.new w1 24 #[.int .u16 0, .int .u16 m, .int .u16 dw, .int .u16 0, .int .u16 (s / 3600), .int .u16 (s / 60 % 60), .int .u16 (s % 60), .int .u16 0]; have d2 := d1.alloc (.cells #[.int .u16 0, .int .u16 m, .int .u16 dw, .int .u16 0, .int .u16 (s / 3600), .int .u16 (s / 60 % 60), .int .u16 (s % 60), .int .u16 0] 24); have z2 := z1.alloc (.cells #[.int .u16 0, .int .u16 m, .int .u16 dw, .int .u16 0, .int .u16 (s / 3600), .int .u16 (s / 60 % 60), .int .u16 (s % 60), .int .u16 0] 24); have b2 := b1.alloc b1.size (.cells #[.int .u16 0, .int .u16 m, .int .u16 dw, .int .u16 0, .int .u16 (s / 3600), .int .u16 (s / 60 % 60), .int .u16 (s % 60), .int .u16 0] 24)
  have zs := z1.lt
  clear d1 z1 b1
  go_upto_region 4 with (first | refine wpList_store_new rfl 24 _ _ rfl rfl w1.heap.size #[.int .u16 0, .int .u16 m, .int .u16 dw, .int .u16 0, .int .u16 (s / 3600), .int .u16 (s / 60 % 60), .int .u16 (s % 60), .int .u16 0] rfl rfl _ #[.int .u16 0, .int .u16 0, .int .u16 0, .int .u16 0, .int .u16 0, .int .u16 0, .int .u16 0, .int .u16 0] w1 rfl rfl rfl (by kernel_rfl) (by kernel_rfl) ?_)
  generalize w1.alloc (.cells #[.int .u16 0, .int .u16 m, .int .u16 dw, .int .u16 0, .int .u16 (s / 3600), .int .u16 (s / 60 % 60), .int .u16 (s % 60), .int .u16 0] 24) = W at *
  generalize w1.heap.size = gs at *
  have k0 := d2.cell 0; have k1 := d2.cell 1; simp at k0 k1
  go_wp2_with (first | refine wpList_store_g rfl 24 _ _ rfl rfl (w.heap.size + 1) 0 #[.int .u16 0, .int .u16 0, .int .u16 0, .int .u16 0, .int .u16 0, .int .u16 0, .int .u16 0, .int .u16 0] #[.int .u16 0, .int .u16 0, .int .u16 0, .int .u16 0, .int .u16 0, .int .u16 0, .int .u16 0, .int .u16 0] rfl rfl _ _ z2 (by show 0 + 8 ≤ 8; decide) (by kernel_rfl) (by kernel_rfl) (by kernel_rfl) ?_)
  exact bodyPost_ret (res_ct rfl _ _ _ _ (sA St.nil) _ _ rfl rfl (Blk.row z2 _) Tryd.underlying24 rfl (by kernel_rfl)) rfl ⟨rfl, below_row b2 (by omega) _⟩
theorem rrule_any (k n dw m s : Int) (w : World) (hk : 0 ≤ k) :
    Calls Tryd.prog 66 #[dayV k n dw, .int .i64 m, .int .i64 s] w fun e w' => e = .returned (.tuple #[.agg (sA (rlV k n dw m s)), .bool (rlB k n dw m s)]) ∧ Below w.heap.size w w' := by
  have no : rlB k n dw m s = false → Calls Tryd.prog 66 #[dayV k n dw, .int .i64 m, .int .i64 s] w (fun e w' => e = .returned (.tuple #[.agg (sA St.nil), .bool false]) ∧ Below w.heap.size w w') → Calls Tryd.prog 66 #[dayV k n dw, .int .i64 m, .int .i64 s] w fun e w' => e = .returned (.tuple #[.agg (sA (rlV k n dw m s)), .bool (rlB k n dw m s)]) ∧ Below w.heap.size w w' := fun h q => by
    rw [show rlV k n dw m s = St.nil by unfold rlV; rw [if_neg (by rw [h]; decide)], h]; exact q
  cases hd : dOk k n dw with
  | false => exact no (by unfold rlB; rw [hd]; rfl) (rrule_bad k n dw m s w hk (by unfold dE; rw [hd]; rfl))
  | true =>
    have hE : dE k n dw = 0 := by unfold dE; rw [hd]; rfl
    by_cases h1 : m < 1
    · exact no (by unfold rlB; rw [hd, show decide (1 ≤ m ∧ m ≤ 12) = false by simp; omega]; rfl) (rrule_m1 k n dw m s w hk hE h1)
    by_cases h2 : 12 < m
    · exact no (by unfold rlB; rw [hd, show decide (1 ≤ m ∧ m ≤ 12) = false by simp; omega]; rfl) (rrule_m2 k n dw m s w hk hE h1 h2)
    have hm : decide (1 ≤ m ∧ m ≤ 12) = true := by simp; omega
    by_cases h3 : s < 0
    · exact no (by unfold rlB; rw [hd, hm, show decide (0 ≤ s ∧ s ≤ 86399) = false by simp; omega]; rfl) (rrule_s1 k n dw m s w hk hE h1 h2 h3)
    by_cases h4 : 86399 < s
    · exact no (by unfold rlB; rw [hd, hm, show decide (0 ≤ s ∧ s ≤ 86399) = false by simp; omega]; rfl) (rrule_s2 k n dw m s w hk hE h1 h2 h3 h4)
    have hs : decide (0 ≤ s ∧ s ≤ 86399) = true := by simp; omega
    have hq : k ≤ 3 ∧ dLo k ≤ n ∧ n ≤ dHi k ∧ 0 ≤ dw ∧ dw ≤ dDs k := of_decide_eq_true hd
    have hds : dDs k ≤ 6 := by unfold dDs; split <;> omega
    have hdw : 0 ≤ dw ∧ dw ≤ 6 := by omega
    have lo2 : k = 2 ∨ k = 3 → 1 ≤ n ∧ n ≤ 31 := fun h => by
      have a := hq.2.1; have b := hq.2.2.1
      unfold dLo at a; unfold dHi at b
      rcases h with rfl | rfl <;> simp at a b <;> omega
    have e : rlB k n dw m s = whB k n := by unfold rlB; rw [hd, hm, hs]; simp
    have ev : whB k n = true → rlV k n dw m s = rlS k n dw m s := fun h => by unfold rlV; rw [if_pos (e.trans h)]
    have hkk : k = 0 ∨ k = 1 ∨ k = 2 ∨ k = 3 := by omega
    rcases hkk with h | h | h | h
    · exact no (by rw [e, h]; rfl) (rrule_0 k n dw m s w hk h hE h1 h2 h3 h4 hdw)
    · have hb : whB k n = true := by rw [h]; rfl
      rw [ev hb, e, hb]
      have := rrule_last k n dw m s w hk h hE h1 h2 h3 h4 hdw
      unfold rlS; rw [show whN k n = 5 by rw [h]; rfl]; exact this
    · have hr := lo2 (.inl h)
      by_cases c0 : n = 1
      · have hb : whB k n = true := by rw [h, c0]; rfl
        rw [ev hb, e, hb]
        have := rrule_2_0 k n dw m s w hk h c0 hE h1 h2 h3 h4 hdw
        unfold rlS; rw [show whN k n = 1 by rw [h, c0]; rfl]; exact this
      by_cases c1 : n = 8
      · have hb : whB k n = true := by rw [h, c1]; rfl
        rw [ev hb, e, hb]
        have := rrule_2_1 k n dw m s w hk h c1 hE h1 h2 h3 h4 hdw
        unfold rlS; rw [show whN k n = 2 by rw [h, c1]; rfl]; exact this
      by_cases c2 : n = 15
      · have hb : whB k n = true := by rw [h, c2]; rfl
        rw [ev hb, e, hb]
        have := rrule_2_2 k n dw m s w hk h c2 hE h1 h2 h3 h4 hdw
        unfold rlS; rw [show whN k n = 3 by rw [h, c2]; rfl]; exact this
      by_cases c3 : n = 22
      · have hb : whB k n = true := by rw [h, c3]; rfl
        rw [ev hb, e, hb]
        have := rrule_2_3 k n dw m s w hk h c3 hE h1 h2 h3 h4 hdw
        unfold rlS; rw [show whN k n = 4 by rw [h, c3]; rfl]; exact this
      exact no (by
        rw [e, h]
        show ((n % 7 == 1) && decide (n ≤ 22)) = false
        rw [Bool.and_eq_false_iff, beq_eq_false_iff_ne, decide_eq_false_iff_not]
        omega) (rrule_2_no k n dw m s w hk h c0 c1 c2 c3 hE h1 h2 h3 h4 hdw)
    · have hr := lo2 (.inr h)
      by_cases c0 : n = 7
      · have hb : whB k n = true := by rw [h, c0]; rfl
        rw [ev hb, e, hb]
        have := rrule_3_0 k n dw m s w hk h c0 hE h1 h2 h3 h4 hdw
        unfold rlS; rw [show whN k n = 1 by rw [h, c0]; rfl]; exact this
      by_cases c1 : n = 14
      · have hb : whB k n = true := by rw [h, c1]; rfl
        rw [ev hb, e, hb]
        have := rrule_3_1 k n dw m s w hk h c1 hE h1 h2 h3 h4 hdw
        unfold rlS; rw [show whN k n = 2 by rw [h, c1]; rfl]; exact this
      by_cases c2 : n = 21
      · have hb : whB k n = true := by rw [h, c2]; rfl
        rw [ev hb, e, hb]
        have := rrule_3_2 k n dw m s w hk h c2 hE h1 h2 h3 h4 hdw
        unfold rlS; rw [show whN k n = 3 by rw [h, c2]; rfl]; exact this
      by_cases c3 : n = 28
      · have hb : whB k n = true := by rw [h, c3]; rfl
        rw [ev hb, e, hb]
        have := rrule_3_3 k n dw m s w hk h c3 hE h1 h2 h3 h4 hdw
        unfold rlS; rw [show whN k n = 4 by rw [h, c3]; rfl]; exact this
      exact no (by
        rw [e, h]
        show ((n % 7 == 0) && decide (n ≤ 28)) = false
        rw [Bool.and_eq_false_iff, beq_eq_false_iff_ne, decide_eq_false_iff_not]
        omega) (rrule_3_no k n dw m s w hk h c0 c1 c2 c3 hE h1 h2 h3 h4 hdw)
end Go.Proofs.YtefcjccapekjdaaDoor.Sh
