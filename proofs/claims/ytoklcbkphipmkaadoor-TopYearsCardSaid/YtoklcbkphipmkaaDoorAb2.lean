/-
  ABBR, WALKED: a format in parts; right formats; right letters.
-/
import Derived.Test.YtoklcbkphipmkaaDoorAb1
namespace Go.Proofs.YtoklcbkphipmkaaDoor.Ab
open Go.ChangeShapes Go.WideShapes Go.ChangeAt Go.RowKit
open Go.Proofs.YtoklcbkphipmkaaDoor
open Go.Proofs.YtoklcbkphipmkaaDoor.Wd
set_option linter.unusedVariables false
abbrev B (l : List UInt8) : ByteArray := ⟨l.toArray⟩
def okE (b : Bool) : Int := if b = true then 0 else 2
theorem ret_ok {b : Bool} {n : Int} (h : n = okE b) : Ending.returned (.int .i64 n) = Ending.returned (.int .i64 (okE b)) := by rw [h]
theorem dash (s : ByteArray) : (s.toList == [45]) = (L s == [45]) := by rw [Lib.toList_data]
set_option maxRecDepth 20000 in
set_option maxHeartbeats 1600000 in
theorem letter_any (s : ByteArray) (w : World) (hs0 : s.size ≤ maxLen) :
    Calls Tryd.prog 21 #[.string s] w fun e w' => e = .returned (.int .i64 (okE (letB (L s)))) ∧ Below w.heap.size w w' := by
  by_cases h32 : 32 < s.size
  · have e1 : (32 : Int) < (s.size : Int) := by omega
    have HL := Lib.hid (show letB (L s) = false by unfold letB; rw [L_len, decide_eq_false (by omega)]; rfl)
    go_enter Tryd.func21, Tryd.ntmps21
    go_wp2
    go_ret
    exact ⟨ret_ok (by rw [HL.out]; rfl), Below.refl _ _⟩
  · have hs : s.size ≤ 1000000 := by omega
    have e1 : ¬ (32 : Int) < (s.size : Int) := by omega
    have HL0 := Lib.hid (show letB (L s) = (!(L s == [45]) && signsL (L s)) by unfold letB; rw [L_len, decide_eq_true (by omega)]; rfl)
    cases hd : (L s == [45]) with
    | true =>
      have HL := Lib.hid (show letB (L s) = false by rw [HL0.out, hd]; rfl)
      have q1 : (s.toList == [45]) = true := by rw [dash, hd]
      clear hd
      go_enter Tryd.func21, Tryd.ntmps21
      go_wp2
      go_ret
      exact ⟨ret_ok (by rw [HL.out]; rfl), Below.refl _ _⟩
    | false =>
      have HL := Lib.hid (show letB (L s) = signsL (L s) by rw [HL0.out, hd]; rfl)
      have q1 : (s.toList == [45]) = false := by rw [dash, hd]
      clear hd
      cases hg : signsL (L s) with
      | true =>
        have HG := Lib.hid hg; clear hg
        go_enter Tryd.func21, Tryd.ntmps21
        go_wp2_with (go_at_call 36; refine (signs_one s _ _ hs).mono ?_; rintro e w1 ⟨rfl, rfl⟩; rw [HG.out])
        go_ret
        exact ⟨ret_ok (by rw [HL.out, HG.out]; rfl), (Below.refl _ _).alloc (Nat.le_refl _) _⟩
      | false =>
        have HG := Lib.hid hg; clear hg
        go_enter Tryd.func21, Tryd.ntmps21
        go_wp2_with (go_at_call 36; refine (signs_one s _ _ hs).mono ?_; rintro e w1 ⟨rfl, rfl⟩; rw [HG.out])
        go_ret
        exact ⟨ret_ok (by rw [HL.out, HG.out]; rfl), (Below.refl _ _).alloc (Nat.le_refl _) _⟩
end Go.Proofs.YtoklcbkphipmkaaDoor.Ab
