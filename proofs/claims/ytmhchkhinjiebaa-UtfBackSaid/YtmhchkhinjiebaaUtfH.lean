/-
  utf's STATEMENTS (1): 'lives', and UtfTells, walked.
-/
import Derived.Test.YtmhchkhinjiebaaUtfG
namespace Go.Proofs.Ytmhchkhinjiebaa.Utf
open Go.ChangeShapes Go.WideShapes Go.ChangeAt Go.RowKit
open Go.Proofs.Ytmhchkhinjiebaa.Wd
set_option linter.unusedVariables false
theorem reads_new (w : World) (xs : List Int) (t : TypeId) : Reads (w.alloc (.cells (iz xs).toArray t)) (w.heap.size + 1) 1 (some ⟨w.heap.size, 0, none⟩) xs.length (iz xs) := by
  refine ⟨by simp, fun _ => ⟨⟨w.heap.size, 0, none⟩, rfl, by simp, fun j u hu => ?_⟩⟩
  have ha : (Addr.add ⟨w.heap.size, 0, none⟩ j) = ⟨w.heap.size, j, none⟩ := by unfold Addr.add; split <;> simp_all
  rw [ha, World.cell?_alloc_new]
  simpa using hu
set_option maxHeartbeats 3200000 in
theorem lives_any (w : World) :
    Calls Try.prog 5 #[] w fun e w' => e = .returned (.bool true) ∧ Below w.heap.size w w' := by
  have e1 : ((encS 8364).toList == [226, 130, 172]) = true := by rw [Lib.toList_data]; decide
  have e2 : encE 8364 = 0 := by decide
  have e3 : ((encS 128512).toList == [240, 159, 152, 128]) = true := by rw [Lib.toList_data]; decide
  have e4 : encE 128512 = 0 := by decide
  have e5 : encE 55296 = 1 := by decide
  have e6 : res (L ⟨#[97, 195, 169, 226, 130, 172]⟩) = [97, 233, 8364] := by decide
  have e7 : chkE (L ⟨#[97, 195, 169, 226, 130, 172]⟩) = 0 := by decide
  have e8 : ((chkI (L ⟨#[97, 98, 192, 128]⟩) : Nat) : Int) = 2 := by decide
  have e9 : chkE (L ⟨#[97, 98, 192, 128]⟩) = 11 := by decide
  have e10 : ((chkI (L ⟨#[226, 130]⟩) : Nat) : Int) = 0 := by decide
  have e11 : chkE (L ⟨#[226, 130]⟩) = 11 := by decide
  have e12 : ((chkI (L ⟨#[97, 98]⟩) : Nat) : Int) = 0 := by decide
  have e13 : chkE (L ⟨#[97, 98]⟩) = 0 := by decide
  have e14 : plain (L ⟨#[97, 32, 98]⟩) = true := by decide
  have e15 : plain (L ⟨#[97, 10]⟩) = false := by decide
  have e16 : plain (L ⟨#[255]⟩) = false := by decide
  have E6 := Lib.hid e6
  clear e6
  go_enter Try.func5, Try.ntmps5
  go_wp2_with fail
  refine (enc_any _ _).mono ?_; rintro e w1 ⟨rfl, rfl⟩
  go_wp2_with fail
  refine (enc_any _ _).mono ?_; rintro e w1 ⟨rfl, rfl⟩
  go_wp2_with fail
  refine (enc_any _ _).mono ?_; rintro e w1 ⟨rfl, rfl⟩
  go_wp2_with fail
  refine (chars_any _ _ (by decide)).mono ?_
  rintro e w1 ⟨v, rfl, hown, hb1⟩
  rw [E6.out] at hown
  obtain ⟨A, cap, rfl⟩ := own_slice hown
  have hr := Reads.of_own hown
  have HR := Lib.hid hr; clear hr hown
  go_wp2_with fail
  refine (check_any _ _ (by decide)).mono ?_; rintro e w2 ⟨rfl, hb2⟩
  have hB2 := bcall hb1 hb2 hb1.size
  go_wp2_with fail
  refine (check_any _ _ (by decide)).mono ?_; rintro e w3 ⟨rfl, hb3⟩
  have hB3 := bcall hB2 hb3 hB2.size
  go_wp2_with fail
  refine (check_any _ _ (by decide)).mono ?_; rintro e w4 ⟨rfl, hb4⟩
  have hB4 := bcall hB3 hb4 hB3.size
  have h14 : Below w1.heap.size w1 w4 := bcall (bcall hb2 hb3 hb2.size) hb4 (bcall hb2 hb3 hb2.size).size
  have R4 := Lib.hid ((HR.out.below h14).alloc h14.size (.cells (iz [97, 233, 8364]).toArray 3))
  go_wp2_with fail
  refine (same_any _ _ _ _ _ _ [97, 233, 8364] [97, 233, 8364] _ _ _ R4.out (reads_new w4 [97, 233, 8364] 3) (by decide) (by decide)).mono ?_
  rintro e w5 ⟨rfl, hb5⟩
  have hB5 := bcall (hB4.alloc hB4.size _) hb5 (hB4.alloc hB4.size _).size
  go_wp2_with fail
  refine (plain_any _ _ (by decide)).mono ?_; rintro e w6 ⟨rfl, hb6⟩
  have hB6 := bcall hB5 hb6 hB5.size
  go_wp2_with fail
  refine (plain_any _ _ (by decide)).mono ?_; rintro e w7 ⟨rfl, hb7⟩
  have hB7 := bcall hB6 hb7 hB6.size
  go_wp2_with fail
  refine (plain_any _ _ (by decide)).mono ?_; rintro e w8 ⟨rfl, hb8⟩
  have hB8 := bcall hB7 hb8 hB7.size
  go_wp2_with fail
  go_ret
  exact ⟨rfl, hB8⟩
set_option maxHeartbeats 3200000 in
theorem tells_any (c : Int) (s : ByteArray) (w : World) (hs : s.size ≤ maxLen) :
    Calls Try.prog 3 #[.int .i64 c, .string s] w fun e w' => e = .returned (.bool true) ∧ Below w.heap.size w w' := by
  unfold maxLen at hs
  by_cases hb : s.size ≤ 8192
  · have hb' : ¬ (8192 : Int) < (s.size : Int) := by omega
    have hrl : (res (L s)).length ≤ 8192 := by
      have := R_length (L s); rw [L_len] at this
      unfold res; split <;> simp; omega
    go_enter Try.func3, Try.ntmps3
    go_wp2_with fail
    refine (enc_any _ _).mono ?_; rintro e w1 ⟨rfl, rfl⟩
    go_wp2_with fail
    refine (renc_any _ _).mono ?_; rintro e w1 ⟨rfl, hB1⟩
    go_wp2_with fail
    refine (check_any _ _ (by unfold maxLen; omega)).mono ?_; rintro e w2 ⟨rfl, hb2⟩
    have hB2 := bcall hB1 hb2 hB1.size
    go_wp2_with fail
    refine (rcheck_any _ _ (by unfold maxLen; omega)).mono ?_; rintro e w3 ⟨rfl, hb3⟩
    have hB3 := bcall hB2 hb3 hB2.size
    go_wp2_with fail
    refine (chars_any _ _ hb).mono ?_; rintro e w4 ⟨v, rfl, hown, hb4⟩
    obtain ⟨A, cap, rfl⟩ := own_slice hown
    have HR := Lib.hid (Reads.of_own hown); clear hown
    have hB4 := bcall hB3 hb4 hB3.size
    go_wp2_with fail
    refine (rchars_any _ _ hb).mono ?_; rintro e w5 ⟨v, rfl, hown, hb5⟩
    obtain ⟨D, cap', rfl⟩ := own_slice hown
    have HR2 := Lib.hid (Reads.of_own hown); clear hown
    have hB5 := bcall hB4 hb5 hB4.size
    have HR5 := Lib.hid (HR.out.below hb5); clear HR
    go_wp2_with fail
    refine (lives_any _).mono ?_; rintro e w6 ⟨rfl, hb6⟩
    have hB6 := bcall hB5 hb6 hB5.size
    have HR6 := Lib.hid (HR5.out.below (hb6.mono hb5.size))
    have HR7 := Lib.hid (HR2.out.below hb6)
    go_wp2_with fail
    refine (same_any _ _ _ _ _ _ (res (L s)) (res (L s)) _ _ _ HR6.out HR7.out (by omega) (by omega)).mono ?_; rintro e w7 ⟨rfl, hb7⟩
    have hB7 := bcall hB6 hb7 hB6.size
    go_wp2_with fail
    refine (plain_any _ _ hb).mono ?_; rintro e w8 ⟨rfl, hb8⟩
    have hB8 := bcall hB7 hb8 hB7.size
    go_wp2_with fail
    refine (rplain_any _ _ hb).mono ?_; rintro e w9 ⟨rfl, hb9⟩
    have hB9 := bcall hB8 hb9 hB8.size
    go_wp2_with fail
    go_ret
    exact ⟨rfl, hB9⟩
  · have hb' : (8192 : Int) < (s.size : Int) := by omega
    go_enter Try.func3, Try.ntmps3
    go_wp2_with fail
    refine (lives_any _).mono ?_; rintro e w6 ⟨rfl, hb6⟩
    go_wp2_with fail
    go_ret
    exact ⟨rfl, hb6⟩
end Go.Proofs.Ytmhchkhinjiebaa.Utf
