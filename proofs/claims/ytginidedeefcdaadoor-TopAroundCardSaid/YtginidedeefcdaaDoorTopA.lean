/-
  TopAround, WALKED.
-/
import Derived.Test.YtginidedeefcdaaDoorArF
namespace Go.Proofs.YtginidedeefcdaaDoor.Wk
open Go.ChangeShapes Go.WideShapes Go.ChangeAt Go.RowKit
open Go.Proofs.YtginidedeefcdaaDoor
open Go.Proofs.YtginidedeefcdaaDoor.Wd
open Go.Proofs.YtginidedeefcdaaDoor.Dy
open Go.Proofs.YtginidedeefcdaaDoor.Civ (Tab ret_bool)
set_option linter.unusedVariables false
set_option maxRecDepth 100000 in
set_option maxHeartbeats 3200000 in
theorem around_long (n dw y m : Int) (text : ByteArray) (w : World) (h : (100 : Int) < (text.size : Int)) :
    Calls Tryd.prog 11 #[.int .i64 n, .int .i64 dw, .int .i64 y, .int .i64 m, .string text] w fun e w' => e = .returned (.bool true) ∧ Below w.heap.size w w' := by
  go_enter Tryd.func11, Tryd.ntmps11
  go_wp2_with fail
  refine (begins3_any _).mono ?_; rintro e w1 ⟨rfl, hb1⟩
  go_wp2_with fail
  go_ret
  exact ⟨rfl, hb1⟩
set_option maxRecDepth 100000 in
set_option maxHeartbeats 3200000 in
theorem around_none (n dw y m LL LE : Int) (text : ByteArray) (w : World) (hT : Tab w) (hs : ¬ (100 : Int) < (text.size : Int)) (hlen : ∀ W, Tab W → Calls Tryd.prog 27 #[.int .i64 y, .int .i64 m] W fun e w' => e = .returned (.tuple #[.int .i64 LL, .int .i64 LE]) ∧ W = w') (h : (LE != 0) = true) :
    Calls Tryd.prog 11 #[.int .i64 n, .int .i64 dw, .int .i64 y, .int .i64 m, .string text] w fun e w' => e = .returned (.bool true) ∧ Below w.heap.size w w' := by
  go_enter Tryd.func11, Tryd.ntmps11
  go_wp2_with fail
  refine (begins3_any _).mono ?_; rintro e w1 ⟨rfl, hb1⟩
  have hT1 := hT.below hT.1 hb1
  go_wp2_with fail
  refine (hlen _ hT1).mono ?_; rintro e w2 ⟨rfl, rfl⟩
  go_wp2_with fail
  go_ret
  exact ⟨rfl, hb1⟩
set_option maxRecDepth 100000 in
set_option maxHeartbeats 3200000 in
theorem around_n1 (n dw y m LL : Int) (text : ByteArray) (w : World) (hT : Tab w) (hs : ¬ (100 : Int) < (text.size : Int)) (hlen : ∀ W, Tab W → Calls Tryd.prog 27 #[.int .i64 y, .int .i64 m] W fun e w' => e = .returned (.tuple #[.int .i64 LL, .int .i64 0]) ∧ W = w') (L0 : 28 ≤ LL) (L1 : LL ≤ 31) (h1 : n < 1) :
    Calls Tryd.prog 11 #[.int .i64 n, .int .i64 dw, .int .i64 y, .int .i64 m, .string text] w fun e w' => e = .returned (.bool true) ∧ Below w.heap.size w w' := by
  go_enter Tryd.func11, Tryd.ntmps11
  go_wp2_with fail
  refine (begins3_any _).mono ?_; rintro e w1 ⟨rfl, hb1⟩
  have hT1 := hT.below hT.1 hb1
  go_wp2_with fail
  refine (hlen _ hT1).mono ?_; rintro e w2 ⟨rfl, rfl⟩
  go_wp2_with fail
  go_ret
  exact ⟨rfl, hb1⟩
set_option maxRecDepth 100000 in
set_option maxHeartbeats 3200000 in
theorem around_n2 (n dw y m LL : Int) (text : ByteArray) (w : World) (hT : Tab w) (hs : ¬ (100 : Int) < (text.size : Int)) (hlen : ∀ W, Tab W → Calls Tryd.prog 27 #[.int .i64 y, .int .i64 m] W fun e w' => e = .returned (.tuple #[.int .i64 LL, .int .i64 0]) ∧ W = w') (L0 : 28 ≤ LL) (L1 : LL ≤ 31) (h1 : ¬ n < 1) (h2 : LL - 6 < n) :
    Calls Tryd.prog 11 #[.int .i64 n, .int .i64 dw, .int .i64 y, .int .i64 m, .string text] w fun e w' => e = .returned (.bool true) ∧ Below w.heap.size w w' := by
  go_enter Tryd.func11, Tryd.ntmps11
  go_wp2_with fail
  refine (begins3_any _).mono ?_; rintro e w1 ⟨rfl, hb1⟩
  have hT1 := hT.below hT.1 hb1
  go_wp2_with fail
  refine (hlen _ hT1).mono ?_; rintro e w2 ⟨rfl, rfl⟩
  go_wp2_with fail
  go_ret
  exact ⟨rfl, hb1⟩
set_option maxRecDepth 100000 in
set_option maxHeartbeats 3200000 in
theorem around_d1 (n dw y m LL : Int) (text : ByteArray) (w : World) (hT : Tab w) (hs : ¬ (100 : Int) < (text.size : Int)) (hlen : ∀ W, Tab W → Calls Tryd.prog 27 #[.int .i64 y, .int .i64 m] W fun e w' => e = .returned (.tuple #[.int .i64 LL, .int .i64 0]) ∧ W = w') (L0 : 28 ≤ LL) (L1 : LL ≤ 31) (h1 : ¬ n < 1) (h2 : ¬ LL - 6 < n) (h3 : dw < 0) :
    Calls Tryd.prog 11 #[.int .i64 n, .int .i64 dw, .int .i64 y, .int .i64 m, .string text] w fun e w' => e = .returned (.bool true) ∧ Below w.heap.size w w' := by
  go_enter Tryd.func11, Tryd.ntmps11
  go_wp2_with fail
  refine (begins3_any _).mono ?_; rintro e w1 ⟨rfl, hb1⟩
  have hT1 := hT.below hT.1 hb1
  go_wp2_with fail
  refine (hlen _ hT1).mono ?_; rintro e w2 ⟨rfl, rfl⟩
  go_wp2_with fail
  go_ret
  exact ⟨rfl, hb1⟩
set_option maxRecDepth 100000 in
set_option maxHeartbeats 3200000 in
theorem around_d2 (n dw y m LL : Int) (text : ByteArray) (w : World) (hT : Tab w) (hs : ¬ (100 : Int) < (text.size : Int)) (hlen : ∀ W, Tab W → Calls Tryd.prog 27 #[.int .i64 y, .int .i64 m] W fun e w' => e = .returned (.tuple #[.int .i64 LL, .int .i64 0]) ∧ W = w') (L0 : 28 ≤ LL) (L1 : LL ≤ 31) (h1 : ¬ n < 1) (h2 : ¬ LL - 6 < n) (h3 : ¬ dw < 0) (h4 : 6 < dw) :
    Calls Tryd.prog 11 #[.int .i64 n, .int .i64 dw, .int .i64 y, .int .i64 m, .string text] w fun e w' => e = .returned (.bool true) ∧ Below w.heap.size w w' := by
  go_enter Tryd.func11, Tryd.ntmps11
  go_wp2_with fail
  refine (begins3_any _).mono ?_; rintro e w1 ⟨rfl, hb1⟩
  have hT1 := hT.below hT.1 hb1
  go_wp2_with fail
  refine (hlen _ hT1).mono ?_; rintro e w2 ⟨rfl, rfl⟩
  go_wp2_with fail
  go_ret
  exact ⟨rfl, hb1⟩
set_option maxRecDepth 100000 in
set_option maxHeartbeats 3200000 in
theorem around_low (n dw y m LL a k K N D P : Int) (text : ByteArray) (S FR : ByteArray) (w : World) (hT : Tab w) (hs : ¬ (100 : Int) < (text.size : Int)) (hlen : ∀ W, Tab W → Calls Tryd.prog 27 #[.int .i64 y, .int .i64 m] W fun e w' => e = .returned (.tuple #[.int .i64 LL, .int .i64 0]) ∧ W = w') (L0 : 28 ≤ LL) (L1 : LL ≤ 31)
    (hTx : ∀ W, Calls Tryd.prog 37 #[dayV 2 n dw] W fun e w' => e = .returned (.tuple #[.string S, .int .i64 0]) ∧ Below W.heap.size W w')
    (hWt : ∀ W, Calls Tryd.prog 38 #[.int .i64 dw] W fun e w' => e = .returned (.string FR) ∧ Below W.heap.size W w')
    (hWk : ∀ W, Calls Tryd.prog 39 #[.string text] W fun e w' => e = .returned (.int .i64 k) ∧ Below W.heap.size W w')
    (hA : ∀ W, Tab W → Calls Tryd.prog 28 #[dayV 2 n dw, .int .i64 y, .int .i64 m] W fun e w' => e = .returned (.tuple #[.int .i64 a, .int .i64 0]) ∧ Below W.heap.size W w')
    (hB : ∀ W, Tab W → Calls Tryd.prog 28 #[dayV 3 (n + 6) dw, .int .i64 y, .int .i64 m] W fun e w' => e = .returned (.tuple #[.int .i64 a, .int .i64 0]) ∧ Below W.heap.size W w')
    (hPa : ∀ W, Mx W → Calls Tryd.prog 40 #[.string (text ++ S.extract 3 S.size)] W fun e w' => e = .returned (.tuple #[.agg #[.int .u8 K, .int .i64 N, .int .i64 D], .int .i64 P]) ∧ Below W.heap.size W w')
    (x1 : S.extract 0 3 = FR) (x2 : FR.size = 3) (x3 : 3 ≤ S.size) (x4 : S.size ≤ 20) (hM : Mx w) (h1 : ¬ n < 1) (h2 : ¬ LL - 6 < n) (h3 : ¬ dw < 0) (h4 : ¬ 6 < dw) (hk : k < 0) :
    Calls Tryd.prog 11 #[.int .i64 n, .int .i64 dw, .int .i64 y, .int .i64 m, .string text] w fun e w' => e = .returned (.bool true) ∧ Below w.heap.size w w' := by
  have X3 : (3 : Int) ≤ (S.size : Int) := by omega
  have X5 : (text.size : Int) ≤ 100 := by omega
  have X6 : (S.size : Int) ≤ 20 := by omega
  have X7 : S.extract 0 3 = FR := x1
  have HX := Lib.hid x1; clear x1
  go_enter Tryd.func11, Tryd.ntmps11
  go_wp2_with fail
  refine (begins3_any _).mono ?_; rintro e w1 ⟨rfl, hb1⟩
  have hT1 := hT.below hT.1 hb1
  go_wp2_with fail
  refine (hlen _ hT1).mono ?_; rintro e w2 ⟨rfl, rfl⟩
  have hM1 := hM.below hb1
  go_wp2_with fail
  refine (hA _ hT1).mono ?_; rintro e w3 ⟨rfl, hb3⟩
  have hB3 := hb1.trans (hb3.mono hb1.size); have hT3 := hT.below hT.1 hB3
  go_wp2_with fail
  refine (hB _ hT3).mono ?_; rintro e w4 ⟨rfl, hb4⟩
  have hB4 := hB3.trans (hb4.mono hB3.size)
  go_wp2_with fail
  refine (hTx _).mono ?_; rintro e w5 ⟨rfl, hb5⟩
  have hB5 := hB4.trans (hb5.mono hB4.size)
  go_wp2_with fail
  refine (hWt _).mono ?_; rintro e w6 ⟨rfl, hb6⟩
  have hB6 := hB5.trans (hb6.mono hB5.size)
  go_wp2_with fail
  refine (hWk _).mono ?_; rintro e w7 ⟨rfl, hb7⟩
  have hB7 := hB6.trans (hb7.mono hB6.size)
  have hM7 := hM.below hB7
  go_wp2_with fail
  refine (hPa _ hM7).mono ?_; rintro e w8 ⟨rfl, hb8⟩
  have hB8 := hB7.trans (hb8.mono hB7.size)
  have hB9 := hB8.alloc hB8.size (.cells #[.int .u8 K, .int .i64 N, .int .i64 D] 56)
  have y8 := Blk.new w8 56 #[.int .u8 K, .int .i64 N, .int .i64 D]
  go_wp2_with (refine wpList_store_new rfl 56 _ _ rfl rfl w8.heap.size #[.int .u8 K, .int .i64 N, .int .i64 D] rfl rfl _ dz w8 rfl rfl rfl (by kernel_rfl) (by kernel_rfl) ?_)
  go_ret
  exact ⟨rfl, hB9⟩
set_option maxRecDepth 100000 in
set_option maxHeartbeats 3200000 in
theorem around_yes (n dw y m LL a k : Int) (text : ByteArray) (S FR : ByteArray) (w : World) (hT : Tab w) (hs : ¬ (100 : Int) < (text.size : Int)) (hlen : ∀ W, Tab W → Calls Tryd.prog 27 #[.int .i64 y, .int .i64 m] W fun e w' => e = .returned (.tuple #[.int .i64 LL, .int .i64 0]) ∧ W = w') (L0 : 28 ≤ LL) (L1 : LL ≤ 31)
    (hTx : ∀ W, Calls Tryd.prog 37 #[dayV 2 n dw] W fun e w' => e = .returned (.tuple #[.string S, .int .i64 0]) ∧ Below W.heap.size W w')
    (hWt : ∀ W, Calls Tryd.prog 38 #[.int .i64 dw] W fun e w' => e = .returned (.string FR) ∧ Below W.heap.size W w')
    (hWk : ∀ W, Calls Tryd.prog 39 #[.string text] W fun e w' => e = .returned (.int .i64 k) ∧ Below W.heap.size W w')
    (hA : ∀ W, Tab W → Calls Tryd.prog 28 #[dayV 2 n dw, .int .i64 y, .int .i64 m] W fun e w' => e = .returned (.tuple #[.int .i64 a, .int .i64 0]) ∧ Below W.heap.size W w')
    (hB : ∀ W, Tab W → Calls Tryd.prog 28 #[dayV 3 (n + 6) dw, .int .i64 y, .int .i64 m] W fun e w' => e = .returned (.tuple #[.int .i64 a, .int .i64 0]) ∧ Below W.heap.size W w')
    (hPa : ∀ W, Mx W → Calls Tryd.prog 40 #[.string (text ++ S.extract 3 S.size)] W fun e w' => e = .returned (.tuple #[.agg #[.int .u8 2, .int .i64 n, .int .i64 k], .int .i64 0]) ∧ Below W.heap.size W w')
    (x1 : S.extract 0 3 = FR) (x2 : FR.size = 3) (x3 : 3 ≤ S.size) (x4 : S.size ≤ 20) (hM : Mx w) (h1 : ¬ n < 1) (h2 : ¬ LL - 6 < n) (h3 : ¬ dw < 0) (h4 : ¬ 6 < dw) (hk : ¬ k < 0) :
    Calls Tryd.prog 11 #[.int .i64 n, .int .i64 dw, .int .i64 y, .int .i64 m, .string text] w fun e w' => e = .returned (.bool true) ∧ Below w.heap.size w w' := by
  have X3 : (3 : Int) ≤ (S.size : Int) := by omega
  have X5 : (text.size : Int) ≤ 100 := by omega
  have X6 : (S.size : Int) ≤ 20 := by omega
  have X7 : S.extract 0 3 = FR := x1
  have HX := Lib.hid x1; clear x1
  go_enter Tryd.func11, Tryd.ntmps11
  go_wp2_with fail
  refine (begins3_any _).mono ?_; rintro e w1 ⟨rfl, hb1⟩
  have hT1 := hT.below hT.1 hb1
  go_wp2_with fail
  refine (hlen _ hT1).mono ?_; rintro e w2 ⟨rfl, rfl⟩
  have hM1 := hM.below hb1
  go_wp2_with fail
  refine (hA _ hT1).mono ?_; rintro e w3 ⟨rfl, hb3⟩
  have hB3 := hb1.trans (hb3.mono hb1.size); have hT3 := hT.below hT.1 hB3
  go_wp2_with fail
  refine (hB _ hT3).mono ?_; rintro e w4 ⟨rfl, hb4⟩
  have hB4 := hB3.trans (hb4.mono hB3.size)
  go_wp2_with fail
  refine (hTx _).mono ?_; rintro e w5 ⟨rfl, hb5⟩
  have hB5 := hB4.trans (hb5.mono hB4.size)
  go_wp2_with fail
  refine (hWt _).mono ?_; rintro e w6 ⟨rfl, hb6⟩
  have hB6 := hB5.trans (hb6.mono hB5.size)
  go_wp2_with fail
  refine (hWk _).mono ?_; rintro e w7 ⟨rfl, hb7⟩
  have hB7 := hB6.trans (hb7.mono hB6.size)
  have hM7 := hM.below hB7
  go_wp2_with fail
  refine (hPa _ hM7).mono ?_; rintro e w8 ⟨rfl, hb8⟩
  have hB8 := hB7.trans (hb8.mono hB7.size)
  have hB9 := hB8.alloc hB8.size (.cells #[.int .u8 2, .int .i64 n, .int .i64 k] 56)
  have y8 := Blk.new w8 56 #[.int .u8 2, .int .i64 n, .int .i64 k]
  go_wp2_with (first | refine wpList_store_new rfl 56 _ _ rfl rfl w8.heap.size #[.int .u8 2, .int .i64 n, .int .i64 k] rfl rfl _ dz w8 rfl rfl rfl (by kernel_rfl) (by kernel_rfl) ?_ | refine wpList_row_g rfl 56 _ rfl _ rfl _ _ _ _ y8 Tryd.underlying56 rfl (by kernel_rfl) ?_)
  go_ret
  exact ⟨rfl, hB9⟩
theorem dec_pos (u : Nat) : 0 < (Lib.decDigits u).length := by
  unfold Lib.decDigits
  split <;> simp
theorem around_any (n dw y m : Int) (text : ByteArray) (w : World) (hT : Tab w) (hM : Mx w) :
    Calls Tryd.prog 11 #[.int .i64 n, .int .i64 dw, .int .i64 y, .int .i64 m, .string text] w fun e w' => e = .returned (.bool true) ∧ Below w.heap.size w w' := by
  by_cases hs : (100 : Int) < (text.size : Int)
  · exact around_long n dw y m text w hs
  have hlen := fun W hT => Civ.len_any y m W hT
  by_cases hy : Cal.okYM y m = true
  · obtain ⟨hl, hv⟩ := Civ.len_of hy
    rw [hl, hv] at hlen
    obtain ⟨L0, L1⟩ := Cal.mlen_bd y m
    by_cases h1 : n < 1
    · exact around_n1 n dw y m _ text w hT hs hlen L0 L1 h1
    by_cases h2 : Cal.mlen y m - 6 < n
    · exact around_n2 n dw y m _ text w hT hs hlen L0 L1 h1 h2
    by_cases h3 : dw < 0
    · exact around_d1 n dw y m _ text w hT hs hlen L0 L1 h1 h2 h3
    by_cases h4 : 6 < dw
    · exact around_d2 n dw y m _ text w hT hs hlen L0 L1 h1 h2 h3 h4
    obtain ⟨a, a1, a2, ⟨p1, p2⟩, ⟨q1, q2⟩⟩ := around_facts hy (show 0 ≤ dw by omega) (show dw ≤ 6 by omega) (show 1 ≤ n by omega) (by omega)
    have hA := fun W hT => in_any 2 n dw y m W hT (by decide)
    have hB := fun W hT => in_any 3 (n + 6) dw y m W hT (by decide)
    rw [p1, p2] at hA
    rw [q1, q2] at hB
    obtain ⟨k, rfl⟩ : ∃ k : Nat, n = k := ⟨n.toNat, by omega⟩
    obtain ⟨x1, x2, x3⟩ := frT_parts k dw (by omega) (by omega)
    have z1 := nT_size (show k < 100 by omega)
    have hWk := fun W => wkday_any text W (by omega)
    have hE : text ++ (frT k dw).extract 3 (frT k dw).size = text ++ (⟨#[62, 61]⟩ ++ nT k) := by rw [x2]
    have hz : (text ++ (⟨#[62, 61]⟩ ++ nT k)).size = text.size + (2 + (nT k).size) := by rw [ByteArray.size_append, ByteArray.size_append]; rfl
    have hPa := fun W hM => parse_any (text ++ (frT k dw).extract 3 (frT k dw).size) W (by rw [hE, hz]; have : 0 < (nT k).size := dec_pos k; omega) (by rw [hE, hz]; omega) hM
    have hTx := fun W => text_from k dw W (by omega) (by omega) (by omega) (by omega)
    have hWt := fun W => text_any dw W
    by_cases hk : pickV text dayNs < 0
    · by_cases hd : dE (tK (text ++ (frT k dw).extract 3 (frT k dw).size)) (tN (text ++ (frT k dw).extract 3 (frT k dw).size)) (tD (text ++ (frT k dw).extract 3 (frT k dw).size)) = 0
      · simp only [if_pos hd] at hPa
        exact around_low k dw y m _ a _ _ _ _ _ text _ _ w hT hs hlen L0 L1 hTx hWt hWk hA hB hPa x1 (wt_size dw (by omega) (by omega)) (by omega) (by omega) hM h1 h2 h3 h4 hk
      · simp only [if_neg hd] at hPa
        exact around_low k dw y m _ a _ _ _ _ _ text _ _ w hT hs hlen L0 L1 hTx hWt hWk hA hB hPa x1 (wt_size dw (by omega) (by omega)) (by omega) (by omega) hM h1 h2 h3 h4 hk
    · obtain ⟨t1, t2, t3⟩ := tA_from (n := k) (text := text) (by omega) (by omega) (by omega)
      have hd : dE (tK (text ++ (frT k dw).extract 3 (frT k dw).size)) (tN (text ++ (frT k dw).extract 3 (frT k dw).size)) (tD (text ++ (frT k dw).extract 3 (frT k dw).size)) = 0 := by
        rw [hE, t1, t2, t3]
        have := pick_lt text
        exact dE_yes ⟨by decide, by show (1 : Int) ≤ k; omega, by show (k : Int) ≤ 31; omega, by omega, this⟩
      have hp : pE (text ++ (frT k dw).extract 3 (frT k dw).size) = 0 := by unfold pE; rw [if_pos hd]
      simp only [if_pos hd, hp] at hPa
      have hPa' : ∀ W, Mx W → Calls Tryd.prog 40 #[.string (text ++ (frT k dw).extract 3 (frT k dw).size)] W fun e w' => e = .returned (.tuple #[.agg #[.int .u8 2, .int .i64 k, .int .i64 (pickV text dayNs)], .int .i64 0]) ∧ Below W.heap.size W w' := by
        intro W hM
        have := hPa W hM
        unfold tA at this
        rw [show tK (text ++ (frT k dw).extract 3 (frT k dw).size) = 2 by rw [hE, t1], show tN (text ++ (frT k dw).extract 3 (frT k dw).size) = k by rw [hE, t2], show tD (text ++ (frT k dw).extract 3 (frT k dw).size) = pickV text dayNs by rw [hE, t3]] at this
        exact this
      exact around_yes k dw y m _ a _ text _ _ w hT hs hlen L0 L1 hTx hWt hWk hA hB hPa' x1 (wt_size dw (by omega) (by omega)) (by omega) (by omega) hM h1 h2 h3 h4 hk
  · obtain ⟨hl, hv⟩ := Civ.len_off hy
    rw [hl, hv] at hlen
    exact around_none n dw y m _ _ text w hT hs hlen (by decide)
end Go.Proofs.YtginidedeefcdaaDoor.Wk
