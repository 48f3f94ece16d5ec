/-
  THE REFERENCE's little, WALKED: its Put.
-/
import Derived.Test.YtcjjgfejamddjaaDoorLitR
namespace Go.Proofs.YtcjjgfejamddjaaDoor.Lit
open Go.ChangeShapes Go.WideShapes Go.ChangeAt Go.RowKit
open Go.Proofs.YtcjjgfejamddjaaDoor
open Go.Proofs.YtcjjgfejamddjaaDoor.Wd
open Go.Lib (byteCells strCells)
set_option linter.unusedVariables false
abbrev L (s : ByteArray) : List UInt8 := s.data.toList
theorem L_len (s : ByteArray) : (L s).length = s.size := Array.length_toList
theorem conv_at (w : World) (g : Nat) (x : Int) (h : w.cell? ⟨g, 0, none⟩ = some (.int .u8 x)) :
    (convert 91 9 (.slice (some ⟨g, 0, none⟩) 1 1)).run Tryd.prog w = .ok (.string ⟨#[UInt8.ofNat x.toNat]⟩) w := by
  rw [run_convert_bytes_string _ _ _ _ (some ⟨g, 0, none⟩) 1 1 Tryd.underlying91 Tryd.underlying5 Tryd.underlying9]
  have hl := run_loadCells_list (P := Tryd.prog) w ⟨g, 0, none⟩ ([x].map (Value.int .u8)) (fun j v hj => by
    match j, hj with
    | 0, hj => simp at hj; subst hj; simpa [Addr.add] using h)
  rw [run_bytesToString _ _ 1 1 [x] hl]
  rfl
theorem conv_one (w : World) (x : Int) :
    (convert 91 9 (.slice (some ⟨w.heap.size, 0, none⟩) 1 1)).run Tryd.prog (w.alloc (.cells #[.int .u8 x] 5)) = .ok (.string ⟨#[UInt8.ofNat x.toNat]⟩) (w.alloc (.cells #[.int .u8 x] 5)) :=
  conv_at _ _ _ (by simp)
theorem conv_drew (w : World) (x : Int) :
    (convert 91 9 (.slice (some ⟨w.heap.size, 0, none⟩) 1 1)).run Tryd.prog (w.alloc (.cells #[.int .u8 x] 5)).drew = .ok (.string ⟨#[UInt8.ofNat x.toNat]⟩) (w.alloc (.cells #[.int .u8 x] 5)).drew :=
  conv_at _ _ _ (by simp)
theorem bytes_eta (x : ByteArray) : x = ⟨(L x).toArray⟩ := by cases x; rfl
theorem byte_mod (n k : Nat) : UInt8.ofNat (n / 256 ^ k % 256) = byteN n k := by
  unfold byteN
  have h : (256 : Nat) ^ k = 2 ^ (8 * k) := by rw [Nat.pow_mul]
  rw [← h]
  apply UInt8.toNat_inj.1
  simp
theorem L_app (a b : ByteArray) : L (a ++ b) = L a ++ L b := by simp [L, ByteArray.data_append]
set_option maxRecDepth 20000 in
set_option maxHeartbeats 1600000 in
theorem rput_on (N n : Nat) (w : World) (h1 : 1 ≤ N) (h8 : N ≤ 8) (hn : n < 18446744073709551616) :
    Calls Tryd.prog 70 #[.int .i64 N, .int .u64 n] w fun e w' => e = .returned (.string ⟨(putN n N).toArray⟩) ∧ Below w.heap.size w w' := by
  have hn1 : (1 : Int) ≤ (N : Int) := by omega
  have hn8 : (N : Int) ≤ 8 := by omega
  go_enter Tryd.func70, Tryd.ntmps70
  go_wp2
  go_loopw [1, 5, 6] (fun m v i w' => ∃ (k : Nat) (x : ByteArray), i = .int .i64 k ∧ k ≤ N ∧ m = .int .u64 ((n / 256 ^ k : Nat) : Int) ∧ v = .string x ∧ L x = putN n k ∧ Below w.heap.size w w') (fun _ _ i _ => N - (intOf i).toNat)
  case atStart => exact ⟨0, ⟨#[]⟩, rfl, Nat.zero_le _, by simp, rfl, rfl, Below.refl _ _⟩
  case round =>
    obtain ⟨k, x, rfl, hk, rfl, rfl, hx, hbw⟩ := hrel
    have HX := Lib.hid hx; clear hx
    by_cases hlt : k < N
    · have hlt' : (k : Int) < (N : Int) := by omega
      have hcv := conv_one wr
      have hm : n / 256 ^ k < 18446744073709551616 := Nat.lt_of_le_of_lt (Nat.div_le_self _ _) hn
      have hxs : x.size ≤ 8 := by have := congrArg List.length HX.out; rw [L_len, putN_len] at this; omega
      have hd := Lib.hid (show n / 256 ^ k / 256 = n / 256 ^ (k + 1) by rw [Nat.div_div_eq_div_mul, ← Nat.pow_succ])
      have hb := Lib.hid (byte_mod n k)
      generalize hM : n / 256 ^ k = M at *
      go_wp2
      go_roundw
      case rel => exact ⟨k + 1, _, by go_num, by omega, by rw [← hd.out]; rfl, rfl, by rw [L_app, HX.out, putN_succ, ← hb.out], hbw.alloc hbw.size _⟩
      case measure => simp [intOf]; omega
    · obtain rfl : k = N := by omega
      have hlt' : ¬ (k : Int) < (k : Int) := by omega
      go_wp2
      go_ret
      exact ⟨by rw [← HX.out, ← bytes_eta]; rfl, hbw⟩
theorem rput_any (N : Int) (n : Nat) (w : World) (hn : n < 18446744073709551616) :
    Calls Tryd.prog 70 #[.int .i64 N, .int .u64 n] w fun e w' => e = .returned (.string ⟨(putL N n).toArray⟩) ∧ Below w.heap.size w w' := by
  by_cases hN : 1 ≤ N ∧ N ≤ 8
  · obtain ⟨k, rfl⟩ : ∃ k : Nat, N = (k : Int) := ⟨N.toNat, by omega⟩
    unfold putL
    rw [if_pos hN]
    exact rput_on k n w (by omega) (by omega) hn
  · unfold putL
    rw [if_neg hN]
    have hN' : N < 1 ∨ (1 ≤ N ∧ 8 < N) := by omega
    clear hN
    rcases hN' with h1 | ⟨h1, h2⟩
    all_goals
      go_enter Tryd.func70, Tryd.ntmps70
      go_wp2
      go_ret
      exact ⟨rfl, Below.refl _ _⟩
end Go.Proofs.YtcjjgfejamddjaaDoor.Lit
