/-
  THE REFERENCE's little, WALKED (1): its Put, lower and value.
-/
import Derived.Test.YtknnadihmodnfaaLitU
namespace Go.Proofs.Ytknnadihmodnfaa.Lit
open Go.ChangeShapes Go.WideShapes Go.ChangeAt Go.RowKit
open Go.Proofs.Ytknnadihmodnfaa
open Go.Proofs.Ytknnadihmodnfaa.Wd
open Go.Lib (byteCells strCells)
set_option linter.unusedVariables false
theorem conv_at (w : World) (g : Nat) (x : Int) (h : w.cell? ⟨g, 0, none⟩ = some (.int .u8 x)) :
    (convert 25 9 (.slice (some ⟨g, 0, none⟩) 1 1)).run Try.prog w = .ok (.string ⟨#[UInt8.ofNat x.toNat]⟩) w := by
  rw [run_convert_bytes_string _ _ _ _ (some ⟨g, 0, none⟩) 1 1 Try.underlying25 Try.underlying5 Try.underlying9]
  have hl := run_loadCells_list (P := Try.prog) w ⟨g, 0, none⟩ ([x].map (Value.int .u8)) (fun j v hj => by
    match j, hj with
    | 0, hj => simp at hj; subst hj; simpa [Addr.add] using h)
  rw [run_bytesToString _ _ 1 1 [x] hl]
  rfl
theorem conv_one (w : World) (x : Int) :
    (convert 25 9 (.slice (some ⟨w.heap.size, 0, none⟩) 1 1)).run Try.prog (w.alloc (.cells #[.int .u8 x] 5)) = .ok (.string ⟨#[UInt8.ofNat x.toNat]⟩) (w.alloc (.cells #[.int .u8 x] 5)) :=
  conv_at _ _ _ (by simp)
theorem conv_drew (w : World) (x : Int) :
    (convert 25 9 (.slice (some ⟨w.heap.size, 0, none⟩) 1 1)).run Try.prog (w.alloc (.cells #[.int .u8 x] 5)).drew = .ok (.string ⟨#[UInt8.ofNat x.toNat]⟩) (w.alloc (.cells #[.int .u8 x] 5)).drew :=
  conv_at _ _ _ (by simp)
theorem bytes_eta (x : ByteArray) : x = ⟨(L x).toArray⟩ := by cases x; rfl
theorem byte_mod (n k : Nat) : UInt8.ofNat (n / 256 ^ k % 256) = byteN n k := by
  unfold byteN
  have h : (256 : Nat) ^ k = 2 ^ (8 * k) := by rw [Nat.pow_mul]
  rw [← h]
  apply UInt8.toNat_inj.1
  simp
theorem L_app (a b : ByteArray) : L (a ++ b) = L a ++ L b := by simp [L, ByteArray.data_append]
set_option maxRecDepth 20000 in
set_option maxHeartbeats 1600000 in
theorem rput_on (N n : Nat) (w : World) (h1 : 1 ≤ N) (h8 : N ≤ 8) (hn : n < 18446744073709551616) :
    Calls Try.prog 11 #[.int .i64 N, .int .u64 n] w fun e w' => e = .returned (.string ⟨(putN n N).toArray⟩) ∧ Below w.heap.size w w' := by
  have hn1 : (1 : Int) ≤ (N : Int) := by omega
  have hn8 : (N : Int) ≤ 8 := by omega
  go_enter Try.func11, Try.ntmps11
  go_wp2
  go_loopw [1, 5, 6] (fun m v i w' => ∃ (k : Nat) (x : ByteArray), i = .int .i64 k ∧ k ≤ N ∧ m = .int .u64 ((n / 256 ^ k : Nat) : Int) ∧ v = .string x ∧ L x = putN n k ∧ Below w.heap.size w w') (fun _ _ i _ => N - (intOf i).toNat)
  case atStart => exact ⟨0, ⟨#[]⟩, rfl, Nat.zero_le _, by simp, rfl, rfl, Below.refl _ _⟩
  case round =>
    obtain ⟨k, x, rfl, hk, rfl, rfl, hx, hbw⟩ := hrel
    have HX := Lib.hid hx; clear hx
    by_cases hlt : k < N
    · have hlt' : (k : Int) < (N : Int) := by omega
      have hcv := conv_one wr
      have hm : n / 256 ^ k < 18446744073709551616 := Nat.lt_of_le_of_lt (Nat.div_le_self _ _) hn
      have hxs : x.size ≤ 8 := by have := congrArg List.length HX.out; rw [L_len, putN_len] at this; omega
      have hd := Lib.hid (show n / 256 ^ k / 256 = n / 256 ^ (k + 1) by rw [Nat.div_div_eq_div_mul, ← Nat.pow_succ])
      have hb := Lib.hid (byte_mod n k)
      generalize hM : n / 256 ^ k = M at *
      go_wp2
      go_roundw
      case rel => exact ⟨k + 1, _, by go_num, by omega, by rw [← hd.out]; rfl, rfl, by rw [L_app, HX.out, putN_succ, ← hb.out], hbw.alloc hbw.size _⟩
      case measure => simp [intOf]; omega
    · obtain rfl : k = N := by omega
      have hlt' : ¬ (k : Int) < (k : Int) := by omega
      go_wp2
      go_ret
      exact ⟨by rw [← HX.out, ← bytes_eta]; rfl, hbw⟩
theorem rput_any (N : Int) (n : Nat) (w : World) (hn : n < 18446744073709551616) :
    Calls Try.prog 11 #[.int .i64 N, .int .u64 n] w fun e w' => e = .returned (.string ⟨(putL N n).toArray⟩) ∧ Below w.heap.size w w' := by
  by_cases hN : 1 ≤ N ∧ N ≤ 8
  · obtain ⟨k, rfl⟩ : ∃ k : Nat, N = (k : Int) := ⟨N.toNat, by omega⟩
    unfold putL
    rw [if_pos hN]
    exact rput_on k n w (by omega) (by omega) hn
  · unfold putL
    rw [if_neg hN]
    have hN' : N < 1 ∨ (1 ≤ N ∧ 8 < N) := by omega
    clear hN
    rcases hN' with h1 | ⟨h1, h2⟩
    all_goals
      go_enter Try.func11, Try.ntmps11
      go_wp2
      go_ret
      exact ⟨rfl, Below.refl _ _⟩
theorem tab_nat {k : Nat} {b : UInt8} (h : k < 16) {p : k < ByteArray.size ⟨#[48, 49, 50, 51, 52, 53, 54, 55, 56, 57, 97, 98, 99, 100, 101, 102]⟩}
    (hh : ((((⟨#[48, 49, 50, 51, 52, 53, 54, 55, 56, 57, 97, 98, 99, 100, 101, 102]⟩ : ByteArray)[k]'p).toNat : Nat) : Int) = (b.toNat : Int)) : hexD k = b := by
  have e := tab_all ⟨k, h⟩
  rw [← e]
  exact UInt8.toNat_inj.1 (by exact_mod_cast hh)
theorem tab_eq {k : Nat} {b : UInt8} (h : k < 16) {p : k < ByteArray.size ⟨#[48, 49, 50, 51, 52, 53, 54, 55, 56, 57, 97, 98, 99, 100, 101, 102]⟩}
    (hh : hexD k = b) : ((((⟨#[48, 49, 50, 51, 52, 53, 54, 55, 56, 57, 97, 98, 99, 100, 101, 102]⟩ : ByteArray)[k]'p).toNat : Int) == (b.toNat : Int)) = true := by
  rw [← hh, ← tab_all ⟨k, h⟩]; simp
set_option maxRecDepth 20000 in
set_option maxHeartbeats 1600000 in
theorem value_any (b : UInt8) (w : World) :
    Calls Try.prog 42 #[.int .u8 (b.toNat : Int)] w fun e w' => e = .returned (.int .i64 (valR b)) ∧ w' = w := by
  go_enter Try.func42, Try.ntmps42
  go_wp2
  go_loopw [3] (fun i w' => ∃ k : Nat, i = .int .i64 k ∧ k ≤ 16 ∧ w' = w ∧ ∀ j, j < k → hexD j ≠ b) (fun i _ => 16 - (intOf i).toNat)
  case atStart => exact ⟨0, rfl, by omega, rfl, fun j hj => absurd hj (by omega)⟩
  case round =>
    obtain ⟨k, rfl, hk, rfl, hj⟩ := hrel
    have HJ := Lib.hid hj; clear hj
    by_cases hlt : k < 16
    · have hlt' : (k : Int) < 16 := by omega
      have hq : 0 ≤ (k : Int) ∧ (k : Int) < 16 := by omega
      go_wp2
      · rename_i hh
        go_ret
        refine ⟨?_, rfl⟩
        have e1 := tab_nat hlt (by simpa using hh)
        show Ending.returned (Value.int .i64 (k : Int)) = _
        rw [(valR_hex b).2 k hlt e1]
      · rename_i hh
        go_roundw
        case rel => exact ⟨k + 1, by go_num, by omega, trivial, fun j hj e => by
          rcases Nat.lt_succ_iff_lt_or_eq.1 hj with q | rfl
          · exact HJ.out j q e
          · rw [tab_eq hlt e] at hh; cases hh⟩
        case measure => simp [intOf]; omega
    · obtain rfl : k = 16 := by omega
      go_wp2
      go_ret
      refine ⟨?_, rfl⟩
      have e : valR b = 16 := by
        apply Decidable.byContradiction
        intro hc
        have hl : valR b < 16 := by unfold valR at hc ⊢; split <;> (try split) <;> simp_all <;> omega
        exact HJ.out _ hl ((valR_hex b).1 hl)
      show Ending.returned (Value.int .i64 (16 : Int)) = _
      rw [e]; rfl
end Go.Proofs.Ytknnadihmodnfaa.Lit
