/-
  TEXTS OF POINTS, WALKED: an angle read.
-/
import Derived.Test.YtoiccljmdplfgaaPt2
namespace Go.Proofs.Ytoiccljmdplfgaa.Pt
open Go.ChangeShapes Go.WideShapes Go.ChangeAt Go.RowKit
open Go.Proofs.Ytoiccljmdplfgaa
open Go.Proofs.Ytoiccljmdplfgaa.Wd
open Go.Proofs.Ytoiccljmdplfgaa.Pl
set_option linter.unusedVariables false
theorem ext_L (s : ByteArray) (a b : Nat) : L (s.extract a b) = ((L s).drop a).take (b - a) := by
  unfold L; rw [Lib.extract_data]
theorem ext_len (s : ByteArray) (a b : Nat) (h : b ≤ s.size) : (s.extract a b).size = b - a := by
  rw [← L_len, ext_L, List.length_take, List.length_drop, L_len]; omega
def numX (s : ByteArray) (a b : Nat) : Int := numV (((L s).drop a).take (b - a))
theorem numX_bd (s : ByteArray) (a b : Nat) {k : Nat} (h : b - a ≤ k) : -1 ≤ numX s a b ∧ numX s a b < 10 ^ k := numV_bd _ (Nat.le_trans (List.length_take_le _ _) h)
theorem num_ext {s : ByteArray} {a b : Nat} {w : World} (h : b ≤ s.size) (h9 : b - a ≤ 9) :
    Calls Try.prog 85 #[.string (s.extract a b)] w fun e w' => e = .returned (.int .i64 (numX s a b)) ∧ w' = w := by
  have := num_any (s.extract a b) w (by rw [ext_len _ _ _ h]; exact h9)
  rwa [ext_L] at this
theorem ret_rd {a a' : Int} {b b' : Bool} (h : a = a') (h2 : b = b') : Ending.returned (.tuple #[.int .i64 a, .bool b]) = Ending.returned (.tuple #[.int .i64 a', .bool b']) := by rw [h, h2]
theorem rd_no {l : List UInt8} {wide : Nat} {sec : Bool} {D M S : Int} (hD : partD l wide = D) (hM : partM l wide = M) (hS : partS l wide sec = S) (h : D < 0 ∨ M < 0 ∨ S < 0) : readV l wide sec = 0 ∧ readB l wide sec = false := by
  have : readB l wide sec = false := by unfold readB; rw [hD, hM, hS]; simp; omega
  exact ⟨by unfold readV; rw [this]; rfl, this⟩
theorem rd_yes {l : List UInt8} {wide : Nat} {sec : Bool} {D M S : Int} (hD : partD l wide = D) (hM : partM l wide = M) (hS : partS l wide sec = S) (h1 : 0 ≤ D) (h2 : 0 ≤ M) (h3 : 0 ≤ S) : readV l wide sec = (if l.head? = some 45 then -(D * 3600 + M * 60 + S) else D * 3600 + M * 60 + S) ∧ readB l wide sec = true := by
  have : readB l wide sec = true := by unfold readB; rw [hD, hM, hS]; simp; omega
  exact ⟨by unfold readV readA; rw [this, hD, hM, hS]; rfl, this⟩
theorem head_at {s : ByteArray} (h : 0 < s.size) : (L s).head? = some s[0] := by
  have hl := L_len s
  cases hs : L s with
  | nil => rw [hs] at hl; simp at hl; omega
  | cons x r =>
    have : (L s)[0]'(by rw [L_len]; exact h) = s[0] := rfl
    simp only [hs, List.getElem_cons_zero] at this
    rw [List.head?_cons, this]
set_option maxRecDepth 20000 in
set_option maxHeartbeats 3200000 in
theorem read_2 (s : ByteArray) (w : World) (hs : s.size = 5) :
    Calls Try.prog 64 #[.string s, .int .i64 2, .bool false] w fun e w' => e = .returned (.tuple #[.int .i64 (readV (L s) 2 false), .bool (readB (L s) 2 false)]) ∧ Below w.heap.size w w' := by
  have hll := L_len s
  have hD : partD (L s) 2 = numX s 1 3 := rfl
  have hM : partM (L s) 2 = numX s 3 5 := rfl
  have hS : partS (L s) 2 false = 0 := by rfl
  have bD := numX_bd s 1 3 (k := 3) (by decide)
  have bM := numX_bd s 3 5 (k := 3) (by decide)
  have HN := Lib.hid (fun h => rd_no hD hM hS h)
  have HY := Lib.hid (fun h1 h2 h3 => rd_yes hD hM hS h1 h2 h3)
  have HH := Lib.hid (head_at (s := s) (by omega))
  have hz : (s.size : Int) = 5 := by omega
  have bD' : -1 ≤ numX s 1 3 ∧ numX s 1 3 < 1000 := bD
  have bM' : -1 ≤ numX s 3 5 ∧ numX s 3 5 < 1000 := bM
  clear hD hM hS bD bM hll 
  have h8 := s[0].toNat_lt
  have hcs : (numX s 1 3 < 0) ∨ (0 ≤ numX s 1 3 ∧ numX s 3 5 < 0) ∨ (0 ≤ numX s 1 3 ∧ 0 ≤ numX s 3 5) := by omega
  rcases hcs with h1 | ⟨h1, h2⟩ | ⟨h1, h2⟩
  · have HN2 := Lib.hid (HN.out (by omega))
    go_enter Try.func64, Try.ntmps64
    go_wp2_with (first | (go_quiet (first | (go_at_call 85; refine Calls.quiet_of_same (num_ext (by omega) (by decide))))) | (go_at_call 85; refine (num_ext (by omega) (by decide)).mono ?_; rintro e w' ⟨rfl, rfl⟩))
    go_ret2
    exact ⟨ret_rd HN2.out.1.symm HN2.out.2.symm, Joins.below_draws _ _ _⟩
  · have HN2 := Lib.hid (HN.out (by omega))
    go_enter Try.func64, Try.ntmps64
    go_wp2_with (first | (go_quiet (first | (go_at_call 85; refine Calls.quiet_of_same (num_ext (by omega) (by decide))))) | (go_at_call 85; refine (num_ext (by omega) (by decide)).mono ?_; rintro e w' ⟨rfl, rfl⟩))
    go_ret2
    exact ⟨ret_rd HN2.out.1.symm HN2.out.2.symm, Joins.below_draws _ _ _⟩
  · by_cases h0 : (s[0].toNat : Int) = 45
    · have HY2 := Lib.hid (HY.out h1 h2 (by decide))
      have HH2 := Lib.hid (show (L s).head? = some 45 by rw [HH.out]; congr 1; exact UInt8.toNat_inj.1 (by show _ = 45; omega))
      go_enter Try.func64, Try.ntmps64
      go_wp2_with (first | (go_quiet (first | (go_at_call 85; refine Calls.quiet_of_same (num_ext (by omega) (by decide))))) | (go_at_call 85; refine (num_ext (by omega) (by decide)).mono ?_; rintro e w' ⟨rfl, rfl⟩))
      go_ret2
      exact ⟨ret_rd (by rw [HY2.out.1, HH2.out, if_pos rfl]; simp) HY2.out.2.symm, Joins.below_draws _ _ _⟩
    · have HY2 := Lib.hid (HY.out h1 h2 (by decide))
      have HH2 := Lib.hid (show ¬ (L s).head? = some 45 by rw [HH.out]; intro e; exact h0 (by rw [Option.some.inj e]; rfl))
      go_enter Try.func64, Try.ntmps64
      go_wp2_with (first | (go_quiet (first | (go_at_call 85; refine Calls.quiet_of_same (num_ext (by omega) (by decide))))) | (go_at_call 85; refine (num_ext (by omega) (by decide)).mono ?_; rintro e w' ⟨rfl, rfl⟩))
      go_ret2
      exact ⟨ret_rd (by rw [HY2.out.1, if_neg HH2.out]; simp) HY2.out.2.symm, Joins.below_draws _ _ _⟩
set_option maxRecDepth 20000 in
set_option maxHeartbeats 3200000 in
theorem read_2s (s : ByteArray) (w : World) (hs : s.size = 7) :
    Calls Try.prog 64 #[.string s, .int .i64 2, .bool true] w fun e w' => e = .returned (.tuple #[.int .i64 (readV (L s) 2 true), .bool (readB (L s) 2 true)]) ∧ Below w.heap.size w w' := by
  have hll := L_len s
  have hD : partD (L s) 2 = numX s 1 3 := rfl
  have hM : partM (L s) 2 = numX s 3 5 := rfl
  have hS : partS (L s) 2 true = numX s 5 7 := by unfold partS numX; rw [if_pos rfl, List.take_of_length_le (by rw [List.length_drop]; omega)]
  have bD := numX_bd s 1 3 (k := 3) (by decide)
  have bM := numX_bd s 3 5 (k := 3) (by decide)
  have bS := numX_bd s 5 7 (k := 3) (by decide)
  have HN := Lib.hid (fun h => rd_no hD hM hS h)
  have HY := Lib.hid (fun h1 h2 h3 => rd_yes hD hM hS h1 h2 h3)
  have HH := Lib.hid (head_at (s := s) (by omega))
  have hz : (s.size : Int) = 7 := by omega
  have bD' : -1 ≤ numX s 1 3 ∧ numX s 1 3 < 1000 := bD
  have bM' : -1 ≤ numX s 3 5 ∧ numX s 3 5 < 1000 := bM
  have bS' : -1 ≤ numX s 5 7 ∧ numX s 5 7 < 1000 := bS
  clear hD hM hS bD bM hll bS
  have h8 := s[0].toNat_lt
  have hcs : (numX s 1 3 < 0) ∨ (0 ≤ numX s 1 3 ∧ numX s 3 5 < 0) ∨ (0 ≤ numX s 1 3 ∧ 0 ≤ numX s 3 5 ∧ numX s 5 7 < 0) ∨ (0 ≤ numX s 1 3 ∧ 0 ≤ numX s 3 5 ∧ 0 ≤ numX s 5 7) := by omega
  rcases hcs with h1 | ⟨h1, h2⟩ | ⟨h1, h2, h3⟩ | ⟨h1, h2, h3⟩
  · have HN2 := Lib.hid (HN.out (by omega))
    go_enter Try.func64, Try.ntmps64
    go_wp2_with (first | (go_quiet (first | (go_at_call 85; refine Calls.quiet_of_same (num_ext (by omega) (by decide))))) | (go_at_call 85; refine (num_ext (by omega) (by decide)).mono ?_; rintro e w' ⟨rfl, rfl⟩))
    go_ret2
    exact ⟨ret_rd HN2.out.1.symm HN2.out.2.symm, Joins.below_draws _ _ _⟩
  · have HN2 := Lib.hid (HN.out (by omega))
    go_enter Try.func64, Try.ntmps64
    go_wp2_with (first | (go_quiet (first | (go_at_call 85; refine Calls.quiet_of_same (num_ext (by omega) (by decide))))) | (go_at_call 85; refine (num_ext (by omega) (by decide)).mono ?_; rintro e w' ⟨rfl, rfl⟩))
    go_ret2
    exact ⟨ret_rd HN2.out.1.symm HN2.out.2.symm, Joins.below_draws _ _ _⟩
  · have HN2 := Lib.hid (HN.out (by omega))
    go_enter Try.func64, Try.ntmps64
    go_wp2_with (first | (go_quiet (first | (go_at_call 85; refine Calls.quiet_of_same (num_ext (by omega) (by decide))))) | (go_at_call 85; refine (num_ext (by omega) (by decide)).mono ?_; rintro e w' ⟨rfl, rfl⟩))
    go_ret2
    exact ⟨ret_rd HN2.out.1.symm HN2.out.2.symm, Joins.below_draws _ _ _⟩
  · by_cases h0 : (s[0].toNat : Int) = 45
    · have HY2 := Lib.hid (HY.out h1 h2 h3)
      have HH2 := Lib.hid (show (L s).head? = some 45 by rw [HH.out]; congr 1; exact UInt8.toNat_inj.1 (by show _ = 45; omega))
      go_enter Try.func64, Try.ntmps64
      go_wp2_with (first | (go_quiet (first | (go_at_call 85; refine Calls.quiet_of_same (num_ext (by omega) (by decide))))) | (go_at_call 85; refine (num_ext (by omega) (by decide)).mono ?_; rintro e w' ⟨rfl, rfl⟩))
      go_ret2
      exact ⟨ret_rd (by rw [HY2.out.1, HH2.out, if_pos rfl]) HY2.out.2.symm, Joins.below_draws _ _ _⟩
    · have HY2 := Lib.hid (HY.out h1 h2 h3)
      have HH2 := Lib.hid (show ¬ (L s).head? = some 45 by rw [HH.out]; intro e; exact h0 (by rw [Option.some.inj e]; rfl))
      go_enter Try.func64, Try.ntmps64
      go_wp2_with (first | (go_quiet (first | (go_at_call 85; refine Calls.quiet_of_same (num_ext (by omega) (by decide))))) | (go_at_call 85; refine (num_ext (by omega) (by decide)).mono ?_; rintro e w' ⟨rfl, rfl⟩))
      go_ret2
      exact ⟨ret_rd (by rw [HY2.out.1, if_neg HH2.out]) HY2.out.2.symm, Joins.below_draws _ _ _⟩
set_option maxRecDepth 20000 in
set_option maxHeartbeats 3200000 in
theorem read_3 (s : ByteArray) (w : World) (hs : s.size = 6) :
    Calls Try.prog 64 #[.string s, .int .i64 3, .bool false] w fun e w' => e = .returned (.tuple #[.int .i64 (readV (L s) 3 false), .bool (readB (L s) 3 false)]) ∧ Below w.heap.size w w' := by
  have hll := L_len s
  have hD : partD (L s) 3 = numX s 1 4 := rfl
  have hM : partM (L s) 3 = numX s 4 6 := rfl
  have hS : partS (L s) 3 false = 0 := by rfl
  have bD := numX_bd s 1 4 (k := 3) (by decide)
  have bM := numX_bd s 4 6 (k := 3) (by decide)
  have HN := Lib.hid (fun h => rd_no hD hM hS h)
  have HY := Lib.hid (fun h1 h2 h3 => rd_yes hD hM hS h1 h2 h3)
  have HH := Lib.hid (head_at (s := s) (by omega))
  have hz : (s.size : Int) = 6 := by omega
  have bD' : -1 ≤ numX s 1 4 ∧ numX s 1 4 < 1000 := bD
  have bM' : -1 ≤ numX s 4 6 ∧ numX s 4 6 < 1000 := bM
  clear hD hM hS bD bM hll 
  have h8 := s[0].toNat_lt
  have hcs : (numX s 1 4 < 0) ∨ (0 ≤ numX s 1 4 ∧ numX s 4 6 < 0) ∨ (0 ≤ numX s 1 4 ∧ 0 ≤ numX s 4 6) := by omega
  rcases hcs with h1 | ⟨h1, h2⟩ | ⟨h1, h2⟩
  · have HN2 := Lib.hid (HN.out (by omega))
    go_enter Try.func64, Try.ntmps64
    go_wp2_with (first | (go_quiet (first | (go_at_call 85; refine Calls.quiet_of_same (num_ext (by omega) (by decide))))) | (go_at_call 85; refine (num_ext (by omega) (by decide)).mono ?_; rintro e w' ⟨rfl, rfl⟩))
    go_ret2
    exact ⟨ret_rd HN2.out.1.symm HN2.out.2.symm, Joins.below_draws _ _ _⟩
  · have HN2 := Lib.hid (HN.out (by omega))
    go_enter Try.func64, Try.ntmps64
    go_wp2_with (first | (go_quiet (first | (go_at_call 85; refine Calls.quiet_of_same (num_ext (by omega) (by decide))))) | (go_at_call 85; refine (num_ext (by omega) (by decide)).mono ?_; rintro e w' ⟨rfl, rfl⟩))
    go_ret2
    exact ⟨ret_rd HN2.out.1.symm HN2.out.2.symm, Joins.below_draws _ _ _⟩
  · by_cases h0 : (s[0].toNat : Int) = 45
    · have HY2 := Lib.hid (HY.out h1 h2 (by decide))
      have HH2 := Lib.hid (show (L s).head? = some 45 by rw [HH.out]; congr 1; exact UInt8.toNat_inj.1 (by show _ = 45; omega))
      go_enter Try.func64, Try.ntmps64
      go_wp2_with (first | (go_quiet (first | (go_at_call 85; refine Calls.quiet_of_same (num_ext (by omega) (by decide))))) | (go_at_call 85; refine (num_ext (by omega) (by decide)).mono ?_; rintro e w' ⟨rfl, rfl⟩))
      go_ret2
      exact ⟨ret_rd (by rw [HY2.out.1, HH2.out, if_pos rfl]; simp) HY2.out.2.symm, Joins.below_draws _ _ _⟩
    · have HY2 := Lib.hid (HY.out h1 h2 (by decide))
      have HH2 := Lib.hid (show ¬ (L s).head? = some 45 by rw [HH.out]; intro e; exact h0 (by rw [Option.some.inj e]; rfl))
      go_enter Try.func64, Try.ntmps64
      go_wp2_with (first | (go_quiet (first | (go_at_call 85; refine Calls.quiet_of_same (num_ext (by omega) (by decide))))) | (go_at_call 85; refine (num_ext (by omega) (by decide)).mono ?_; rintro e w' ⟨rfl, rfl⟩))
      go_ret2
      exact ⟨ret_rd (by rw [HY2.out.1, if_neg HH2.out]; simp) HY2.out.2.symm, Joins.below_draws _ _ _⟩
set_option maxRecDepth 20000 in
set_option maxHeartbeats 3200000 in
theorem read_3s (s : ByteArray) (w : World) (hs : s.size = 8) :
    Calls Try.prog 64 #[.string s, .int .i64 3, .bool true] w fun e w' => e = .returned (.tuple #[.int .i64 (readV (L s) 3 true), .bool (readB (L s) 3 true)]) ∧ Below w.heap.size w w' := by
  have hll := L_len s
  have hD : partD (L s) 3 = numX s 1 4 := rfl
  have hM : partM (L s) 3 = numX s 4 6 := rfl
  have hS : partS (L s) 3 true = numX s 6 8 := by unfold partS numX; rw [if_pos rfl, List.take_of_length_le (by rw [List.length_drop]; omega)]
  have bD := numX_bd s 1 4 (k := 3) (by decide)
  have bM := numX_bd s 4 6 (k := 3) (by decide)
  have bS := numX_bd s 6 8 (k := 3) (by decide)
  have HN := Lib.hid (fun h => rd_no hD hM hS h)
  have HY := Lib.hid (fun h1 h2 h3 => rd_yes hD hM hS h1 h2 h3)
  have HH := Lib.hid (head_at (s := s) (by omega))
  have hz : (s.size : Int) = 8 := by omega
  have bD' : -1 ≤ numX s 1 4 ∧ numX s 1 4 < 1000 := bD
  have bM' : -1 ≤ numX s 4 6 ∧ numX s 4 6 < 1000 := bM
  have bS' : -1 ≤ numX s 6 8 ∧ numX s 6 8 < 1000 := bS
  clear hD hM hS bD bM hll bS
  have h8 := s[0].toNat_lt
  have hcs : (numX s 1 4 < 0) ∨ (0 ≤ numX s 1 4 ∧ numX s 4 6 < 0) ∨ (0 ≤ numX s 1 4 ∧ 0 ≤ numX s 4 6 ∧ numX s 6 8 < 0) ∨ (0 ≤ numX s 1 4 ∧ 0 ≤ numX s 4 6 ∧ 0 ≤ numX s 6 8) := by omega
  rcases hcs with h1 | ⟨h1, h2⟩ | ⟨h1, h2, h3⟩ | ⟨h1, h2, h3⟩
  · have HN2 := Lib.hid (HN.out (by omega))
    go_enter Try.func64, Try.ntmps64
    go_wp2_with (first | (go_quiet (first | (go_at_call 85; refine Calls.quiet_of_same (num_ext (by omega) (by decide))))) | (go_at_call 85; refine (num_ext (by omega) (by decide)).mono ?_; rintro e w' ⟨rfl, rfl⟩))
    go_ret2
    exact ⟨ret_rd HN2.out.1.symm HN2.out.2.symm, Joins.below_draws _ _ _⟩
  · have HN2 := Lib.hid (HN.out (by omega))
    go_enter Try.func64, Try.ntmps64
    go_wp2_with (first | (go_quiet (first | (go_at_call 85; refine Calls.quiet_of_same (num_ext (by omega) (by decide))))) | (go_at_call 85; refine (num_ext (by omega) (by decide)).mono ?_; rintro e w' ⟨rfl, rfl⟩))
    go_ret2
    exact ⟨ret_rd HN2.out.1.symm HN2.out.2.symm, Joins.below_draws _ _ _⟩
  · have HN2 := Lib.hid (HN.out (by omega))
    go_enter Try.func64, Try.ntmps64
    go_wp2_with (first | (go_quiet (first | (go_at_call 85; refine Calls.quiet_of_same (num_ext (by omega) (by decide))))) | (go_at_call 85; refine (num_ext (by omega) (by decide)).mono ?_; rintro e w' ⟨rfl, rfl⟩))
    go_ret2
    exact ⟨ret_rd HN2.out.1.symm HN2.out.2.symm, Joins.below_draws _ _ _⟩
  · by_cases h0 : (s[0].toNat : Int) = 45
    · have HY2 := Lib.hid (HY.out h1 h2 h3)
      have HH2 := Lib.hid (show (L s).head? = some 45 by rw [HH.out]; congr 1; exact UInt8.toNat_inj.1 (by show _ = 45; omega))
      go_enter Try.func64, Try.ntmps64
      go_wp2_with (first | (go_quiet (first | (go_at_call 85; refine Calls.quiet_of_same (num_ext (by omega) (by decide))))) | (go_at_call 85; refine (num_ext (by omega) (by decide)).mono ?_; rintro e w' ⟨rfl, rfl⟩))
      go_ret2
      exact ⟨ret_rd (by rw [HY2.out.1, HH2.out, if_pos rfl]) HY2.out.2.symm, Joins.below_draws _ _ _⟩
    · have HY2 := Lib.hid (HY.out h1 h2 h3)
      have HH2 := Lib.hid (show ¬ (L s).head? = some 45 by rw [HH.out]; intro e; exact h0 (by rw [Option.some.inj e]; rfl))
      go_enter Try.func64, Try.ntmps64
      go_wp2_with (first | (go_quiet (first | (go_at_call 85; refine Calls.quiet_of_same (num_ext (by omega) (by decide))))) | (go_at_call 85; refine (num_ext (by omega) (by decide)).mono ?_; rintro e w' ⟨rfl, rfl⟩))
      go_ret2
      exact ⟨ret_rd (by rw [HY2.out.1, if_neg HH2.out]) HY2.out.2.symm, Joins.below_draws _ _ _⟩
end Go.Proofs.Ytoiccljmdplfgaa.Pt
