/-
  TEXTS OF POINTS, WALKED: a point's text; a number of digits.
-/
import Derived.Test.YtoiccljmdplfgaaPt1
import Derived.Test.YtoiccljmdplfgaaPl4
namespace Go.Proofs.Ytoiccljmdplfgaa.Pt
open Go.ChangeShapes Go.WideShapes Go.ChangeAt Go.RowKit
open Go.Proofs.Ytoiccljmdplfgaa
open Go.Proofs.Ytoiccljmdplfgaa.Wd
open Go.Proofs.Ytoiccljmdplfgaa.Pl
open Go.Lib (byteCells)
set_option linter.unusedVariables false
theorem angle_at {base : Nat} {v : Value} {xs : List UInt8} {N K : Int} {sec : Bool} {w : World} (hown : Rw w base v xs) (hb : base ≤ w.heap.size) (hK : 0 ≤ K ∧ K ≤ 3) (hx : xs.length ≤ 50) (hN : -648000 ≤ N ∧ N ≤ 648000) :
    Calls Try.prog 63 #[v, .int .i64 N, .int .i64 K, .bool sec] w fun e w' => ∃ v', e = .returned v' ∧ Rw w' base v' (xs ++ angT N K.toNat sec) ∧ Below base w w' :=
  angle_any base v xs N K K.toNat sec w (by omega) (by omega) hb hown hx hN
theorem ret_pt {l l' : List UInt8} {n n' : Int} (h : l = l') (h2 : n = n') : Ending.returned (.tuple #[.string ⟨l.toArray⟩, .int .i64 n]) = Ending.returned (.tuple #[.string (B l'), .int .i64 n']) := by rw [h, h2]
set_option maxRecDepth 20000 in
set_option maxHeartbeats 3200000 in
theorem ptext_any (a b : Int) (w : World) :
    Calls Try.prog 33 #[.agg #[.int .i64 a, .int .i64 b]] w fun e w' => e = .returned (.tuple #[.string (B (txtT ⟨a, b⟩)), .int .i64 (txtE ⟨a, b⟩)]) ∧ Below w.heap.size w w' := by
  have x0 := Blk.new w 23 #[.int .i64 a, .int .i64 b]
  have i0 := (BI.start w).alloc (.cells #[.int .i64 a, .int .i64 b] 23)
  have hc := fun w => check_any ⟨a, b⟩ w
  by_cases h : P2.ok ⟨a, b⟩ = true
  · have HT := Lib.hid (show txtT ⟨a, b⟩ = pT ⟨a, b⟩ from if_pos h)
    have HE := Lib.hid (show txtE ⟨a, b⟩ = 0 from if_pos h)
    rw [show chkV ⟨a, b⟩ = 0 from if_pos h] at hc
    have h' := P2.ok_iff.1 h
    simp only at h'
    have ha : -648000 ≤ a ∧ a ≤ 648000 := by omega
    have hb : -648000 ≤ b ∧ b ≤ 648000 := by omega
    clear h h'
    cases hm : (a.tmod 60 != 0)
    all_goals
      have HS := Lib.hid (show secB ⟨a, b⟩ = _ by unfold secB; simp only; rw [hm])
      go_enter Try.func33, Try.ntmps33
      go_wp2_with (refine wpList_row_g rfl 23 _ rfl _ rfl _ _ _ _ x0 Try.underlying23 rfl (by kernel_rfl) ?_)
      refine (hc _).mono ?_; rintro e w1 ⟨rfl, hb1⟩
      have x1 := x0.below hb1 x0.lt
      have hi := i0.call hb1
      have c0 := x1.cell 0; have c1 := x1.cell 1
      simp at c0 c1
      have hrow := Rw.nil w1 w1.heap.size
      have hbw := Below.refl w1.heap.size w1
      have hsz := hbw.size
      clear x0 i0 hb1 hc x1
      go_wp2_with (go_at_call 63; refine (angle_at hrow hsz (by decide) (by simp [angT_len]; try split <;> omega) (by assumption)).mono ?_; rintro e w2 ⟨v2, rfl, ho2, hb2⟩; replace hbw := hbw.trans hb2; have cc1 := cell_keep c1 hbw; replace hsz := hbw.size; replace hrow := ho2; have hcv := conv_row hrow; clear hb2 ho2)
      go_ret2
      refine ⟨ret_pt ?_ HE.out.symm, hi.call hbw⟩
      rw [HT.out]; unfold pT; rw [HS.out]; rfl
  · have HT := Lib.hid (show txtT ⟨a, b⟩ = [] from if_neg h)
    have HE := Lib.hid (show txtE ⟨a, b⟩ = 2 from if_neg h)
    rw [show chkV ⟨a, b⟩ = 2 from if_neg h] at hc
    clear h
    go_enter Try.func33, Try.ntmps33
    go_wp2_with (refine wpList_row_g rfl 23 _ rfl _ rfl _ _ _ _ x0 Try.underlying23 rfl (by kernel_rfl) ?_)
    refine (hc _).mono ?_; rintro e w1 ⟨rfl, hb1⟩
    have hi := i0.call hb1
    clear x0 i0 hb1 hc
    go_wp2
    go_ret2
    exact ⟨ret_pt HT.out.symm HE.out.symm, hi⟩
theorem num_at {s : List UInt8} {j : Nat} (h : j < s.length) : numN (s.take (j + 1)) = numN (s.take j) * 10 + (s[j].toNat - 48) := by
  rw [List.take_succ_eq_append_getElem h, numN_snoc]
theorem take_all {α : Type} {p : α → Bool} {l : List α} {k : Nat} (h : k < l.length) : (l.take (k + 1)).all p = ((l.take k).all p && p l[k]) := by
  rw [List.take_succ_eq_append_getElem h, List.all_append]; simp
theorem not_all {α : Type} {p : α → Bool} {l : List α} {k : Nat} (h : k < l.length) (hp : p l[k] = false) : l.all p = false := by
  rw [List.all_eq_false]; exact ⟨l[k], List.getElem_mem h, by simp [hp]⟩
theorem ret_int {a b : Int} (h : a = b) : Ending.returned (.int .i64 a) = Ending.returned (.int .i64 b) := by rw [h]
theorem num_lt {l : List UInt8} {j : Nat} (hj : j ≤ 9) (h : (l.take j).all digB = true) : numN (l.take j) < 1000000000 := by
  have h1 := numN_lt h
  have h2 : (l.take j).length ≤ j := List.length_take_le _ _
  have h3 : 10 ^ (l.take j).length ≤ 10 ^ 9 := Nat.pow_le_pow_right (by decide) (by omega)
  omega
set_option maxRecDepth 20000 in
set_option maxHeartbeats 3200000 in
theorem num_any (s : ByteArray) (w : World) (hs : s.size ≤ 9) :
    Calls Try.prog 85 #[.string s] w fun e w' => e = .returned (.int .i64 (numV (L s))) ∧ w' = w := by
  go_enter Try.func85, Try.ntmps85
  go_wp2
  go_loop [3, 4] (fun n i => ∃ (j : Nat) (z : Int), n = .int .i64 z ∧ i = .int .i64 j ∧ j ≤ s.size ∧ (((L s).take j).all digB = true ∧ z = (numN ((L s).take j) : Nat))) (fun n i => s.size - (intOf i).toNat)
  case atStart => exact ⟨0, 0, rfl, rfl, Nat.zero_le _, by simp, rfl⟩
  case round =>
    obtain ⟨j, z, rfl, rfl, hj, hal⟩ := hrel
    have hm : 0 ≤ z ∧ z < 1000000000 := by have := num_lt (by omega) hal.1; omega
    have HA := Lib.hid hal; clear hal
    by_cases hlt : j < s.size
    · have hlt' : (j : Int) < (s.size : Int) := by omega
      have hjl : j < (L s).length := by rw [L_len]; exact hlt
      have hT := Lib.hid (take_all (p := digB) hjl)
      have hN := Lib.hid (not_all (p := digB) hjl)
      have hV := Lib.hid (num_at hjl)
      have hat : (L s)[j] = s[j] := rfl
      rw [hat] at hT hN hV
      have h8 := s[j].toNat_lt
      cases hq : digB s[j] with
      | true =>
        have HQ := Lib.hid hq
        unfold digB at hq
        simp only [decide_eq_true_eq] at hq
        have e1 : (48 : Int) ≤ (s[j].toNat : Int) := by omega
        have e2 : (s[j].toNat : Int) ≤ 57 := by omega
        have HE := Lib.hid (show ((s[j].toNat - 48 : Nat) : Int) = (s[j].toNat : Int) - 48 by omega)
        clear hq
        go_wp2
        go_round
        case rel => exact ⟨j + 1, z * 10 + ((s[j].toNat : Int) - 48), by go_num, by go_num, by omega, by rw [hT.out, HA.out.1, HQ.out]; rfl, by rw [hV.out, Int.natCast_add, HE.out, HA.out.2]; rfl⟩
        case measure => simp [intOf]; omega
      | false =>
        have HQ := Lib.hid (show numV (L s) = -1 from if_neg (by rw [hN.out hq]; decide))
        unfold digB at hq
        simp only [decide_eq_false_iff_not] at hq
        have hq' : (s[j].toNat : Int) < 48 ∨ (57 : Int) < (s[j].toNat : Int) := by omega
        clear hq
        rcases hq' with e1 | e1
        all_goals
          go_wp2
          go_ret
          exact ⟨ret_int HQ.out.symm, rfl⟩
    · obtain rfl : j = s.size := by omega
      have hlt' : ¬ (s.size : Int) < (s.size : Int) := by omega
      have hb := HA.out
      rw [List.take_of_length_le (by rw [L_len]; exact Nat.le_refl _)] at hb
      have HB2 := Lib.hid (show numV (L s) = z by unfold numV; rw [if_pos hb.1, hb.2])
      clear hb
      go_wp2
      go_ret
      exact ⟨ret_int HB2.out.symm, rfl⟩
end Go.Proofs.Ytoiccljmdplfgaa.Pt
