/-
  SPANS COMPARED: solsticeref18.Same of two slices that read the same spans.
-/
import Derived.Test.YtefcjccapekjdaaDoorFtL
namespace Go.Proofs.YtefcjccapekjdaaDoor.Ft
open Go.ChangeShapes Go.WideShapes Go.ChangeAt Go.RowKit
open Go.Proofs.YtefcjccapekjdaaDoor
open Go.Proofs.YtefcjccapekjdaaDoor.Wd
open Go.Proofs.YtefcjccapekjdaaDoor.Tb
set_option linter.unusedVariables false
set_option maxRecDepth 20000 in
set_option maxHeartbeats 3200000 in
theorem same_eq (A1 A2 : Option Addr) (n c1 c2 : Nat) (l : List Sp) (w : World) (hs1 : Spans w w.heap.size A1 n l) (hs2 : Spans w w.heap.size A2 n l) (hm : n ≤ maxLen) :
    Calls Tryd.prog 47 #[.slice A1 n c1, .slice A2 n c2] w fun e w' => e = .returned (.bool true) ∧ Below w.heap.size w w' := by
  unfold maxLen at hm
  go_enter Tryd.func47, Tryd.ntmps47
  go_wp2_with fail
  go_loopw [13] (fun i wr => ∃ k : Nat, i = .int .i64 k ∧ k ≤ n ∧ Below w.heap.size w wr) (fun i _ => n - (intOf i).toNat)
  case atStart => exact ⟨0, rfl, Nat.zero_le _, Below.refl _ _⟩
  case round =>
    obtain ⟨k, rfl, hk, hb⟩ := hrel
    by_cases hlt : k < n
    · have hlt' : (k : Int) < (n : Int) := by omega
      obtain ⟨ad, rfl, r1⟩ := (hs1.below hb).row hlt
      obtain ⟨ae, rfl, r2⟩ := (hs2.below hb).row hlt
      obtain ⟨⟨f, o, d⟩, eA⟩ : ∃ a, at_ l k = a := ⟨_, rfl⟩
      rw [eA] at r1 r2
      clear eA
      obtain ⟨q10, q11, q12, q13, q14⟩ := SpAt.of r1
      obtain ⟨q20, q21, q22, q23, q24⟩ := SpAt.of r2
      simp only at q10 q11 q12 q13 q14 q20 q21 q22 q23 q24
      clear r1 r2
      go_wp2_with fail
      go_quiet ((go_at_call 0))
      clear q10 q11 q12 q13 q14 q20 q21 q22 q23 q24
      go_wp2_with fail
      go_roundw
      case rel => exact ⟨k + 1, by go_num, by omega, bdN hb _⟩
      case measure => simp [intOf]; omega
    · have hlt' : ¬ (k : Int) < (n : Int) := by omega
      go_wp2_with fail
      go_ret
      exact ⟨rfl, hb⟩
end Go.Proofs.YtefcjccapekjdaaDoor.Ft
