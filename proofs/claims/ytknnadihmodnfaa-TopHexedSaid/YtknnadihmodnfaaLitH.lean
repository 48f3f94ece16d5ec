/-
  little's DIGITS, WALKED: Hex is the digits of a text's bytes.
-/
import Derived.Test.YtknnadihmodnfaaLit
import Derived.Test.YtknnadihmodnfaaLitP
namespace Go.Proofs.Ytknnadihmodnfaa.Lit
open Go.ChangeShapes Go.WideShapes Go.ChangeAt Go.RowKit
open Go.Proofs.Ytknnadihmodnfaa
open Go.Proofs.Ytknnadihmodnfaa.Wd
open Go.Lib (byteCells strCells)
set_option linter.unusedVariables false
abbrev L (s : ByteArray) : List UInt8 := s.data.toList
theorem L_len (s : ByteArray) : (L s).length = s.size := Array.length_toList
theorem reads_two (w : World) (t : TypeId) (u v : Value) : Reads (w.alloc (.cells #[u, v] t)) (w.heap.size + 1) 1 (some ⟨w.heap.size, 0, none⟩) 2 [u, v] :=
  ⟨rfl, fun _ => ⟨_, rfl, Nat.lt_succ_self _, fun j x hx => by
    match j, hx with
    | 0, hx => simp at hx; subst hx; simp [Addr.add]
    | 1, hx => simp at hx; subst hx; simp [Addr.add]⟩⟩
theorem int_two (t : IntKind) (b c : Int) : ∀ u ∈ [Value.int t b, Value.int t c], u.oneCell' = true := by
  intro u hu; simp at hu; rcases hu with rfl | rfl <;> rfl
theorem own_ge {w : World} {base : Nat} {e : TypeId} {size n : Nat} {v : Value} {xs : List Value} (h : w.ownsRow base e size v n xs) : ∀ g, v.ownBlock = some g → base ≤ g := fun g hg => (own_lt h g hg).1
theorem and15_all : ∀ n : Fin 256, bits .and .u8 ((n.val : Nat) : Int) 15 = ((n.val % 16 : Nat) : Int) := by decide +kernel
theorem and15 (b : UInt8) : bits .and .u8 (b.toNat : Int) 15 = (b.toNat : Int) % 16 := by
  have := and15_all ⟨b.toNat, b.toNat_lt⟩
  rw [this]; simp
theorem tab_all : ∀ n : Fin 16, ((⟨#[48, 49, 50, 51, 52, 53, 54, 55, 56, 57, 97, 98, 99, 100, 101, 102]⟩ : ByteArray)[n.val]'n.isLt) = hexD n.val := by decide
theorem tab_at (z : Int) (h : 0 ≤ z ∧ z < 16) {p : z.toNat < ByteArray.size ⟨#[48, 49, 50, 51, 52, 53, 54, 55, 56, 57, 97, 98, 99, 100, 101, 102]⟩} :
    ((⟨#[48, 49, 50, 51, 52, 53, 54, 55, 56, 57, 97, 98, 99, 100, 101, 102]⟩ : ByteArray)[z.toNat]'p) = hexD z.toNat := tab_all ⟨z.toNat, p⟩
theorem tab_hi (b : UInt8) {p : ((b.toNat : Int) / 16).toNat < ByteArray.size ⟨#[48, 49, 50, 51, 52, 53, 54, 55, 56, 57, 97, 98, 99, 100, 101, 102]⟩} :
    ((⟨#[48, 49, 50, 51, 52, 53, 54, 55, 56, 57, 97, 98, 99, 100, 101, 102]⟩ : ByteArray)[((b.toNat : Int) / 16).toNat]'p) = hexD (b.toNat / 16) := by
  rw [tab_at _ (by have := b.toNat_lt; omega)]
  congr 1
theorem tab_lo (b : UInt8) {p : ((b.toNat : Int) % 16).toNat < ByteArray.size ⟨#[48, 49, 50, 51, 52, 53, 54, 55, 56, 57, 97, 98, 99, 100, 101, 102]⟩} :
    ((⟨#[48, 49, 50, 51, 52, 53, 54, 55, 56, 57, 97, 98, 99, 100, 101, 102]⟩ : ByteArray)[((b.toNat : Int) % 16).toNat]'p) = hexD (b.toNat % 16) := by
  rw [tab_at _ (by omega)]
  congr 1
theorem cells_two (a b : UInt8) : [Value.int .u8 (a.toNat : Int), Value.int .u8 (b.toNat : Int)] = byteCells [a, b] := rfl
theorem cells_one (a : UInt8) : [Value.int .u8 (a.toNat : Int)] = byteCells [a] := rfl
theorem take_at (s : ByteArray) (k : Nat) (h : k < s.size) : (L s).take (k + 1) = (L s).take k ++ [s[k]] := by
  have hl : k < (L s).length := by rw [L_len]; exact h
  rw [List.take_succ_eq_append_getElem hl]
  congr 2
theorem take_ne {s : ByteArray} {k : Nat} (h : k < s.size) (h0 : ¬ k = 0) : (L s).take k ≠ [] := by
  intro e
  have := congrArg List.length e
  rw [List.length_take, L_len, List.length_nil] at this
  omega
set_option maxRecDepth 20000 in
set_option maxHeartbeats 3200000 in
theorem hex_any (s : ByteArray) (w : World) (hs : s.size ≤ 1000000) :
    Calls Try.prog 16 #[.string s] w fun e w' => e = .returned (.string ⟨(hexL (L s)).toArray⟩) ∧ Below w.heap.size w w' := by
  obtain ⟨i0, hi0, hz0, hz1, hz2⟩ := info_parts byte_info
  go_enter Try.func16, Try.ntmps16
  go_wp2_with (at_make; refine wpList_make_own _ rfl _ _ 25 rfl w.heap.size 5 i0 (.int .u8 0) 1 Try.underlying25 hi0 hz0 hz1 .i64 .i64 _ (3 * s.size) rfl rfl (by omega) (by rw [hz2]; omega) (by unfold maxLen; omega) (Nat.le_refl _) ?_; intro w0 hown0 hgrow0)
  have hb0 : Below w.heap.size w w0 := (Below.refl _ _).grown hgrow0 (Nat.le_refl _) (by simp)
  clear hgrow0
  go_loopw [3, 4, 11] (fun v _ i w' => ∃ k : Nat, i = .int .i64 k ∧ k ≤ s.size ∧ w'.ownsRow w.heap.size 5 1 v (hexL ((L s).take k)).length (byteCells (hexL ((L s).take k))) ∧ Below w.heap.size w w') (fun _ _ i _ => s.size - (intOf i).toNat)
  case atStart => exact ⟨0, rfl, Nat.zero_le _, by simpa [hexL, flatL, byteCells] using hown0, hb0⟩
  case round =>
    obtain ⟨k, rfl, hk, hown, hbw⟩ := hrel
    by_cases hlt : k < s.size
    · have hlt' : (k : Int) < (s.size : Int) := by omega
      have hsz := hbw.size
      have hb8 : (s[k]).toNat < 256 := (s[k]).toNat_lt
      have hA : 0 ≤ ((s[k]).toNat : Int) / 16 ∧ ((s[k]).toNat : Int) / 16 < 16 := by omega
      have hB : 0 ≤ ((s[k]).toNat : Int) % 16 ∧ ((s[k]).toNat : Int) % 16 < 16 := by omega
      have hand : bits .and .u8 ((s[k]).toNat : Int) 15 = ((s[k]).toNat : Int) % 16 := and15 _
      have hT := Lib.hid (take_at s k hlt)
      obtain ⟨xs, hxs⟩ : ∃ xs, xs = hexL ((L s).take k) := ⟨_, rfl⟩
      rw [← hxs] at hown
      have hxl : xs.length ≤ 3000000 := by rw [hxs, hex_len, List.length_take]; omega
      have HX := Lib.hid hxs
      clear hxs
      by_cases h0 : k = 0
      · have hk0 : ¬ (0 : Int) < (k : Int) := by omega
        have H0 := Lib.hid h0; clear h0
        go_wp2
        have hrow := Lib.hid hown
        go_region_law (refine step_append_any _ rfl (.tmp 19) (.tmp 30) 25 rfl w.heap.size 5 i0 _ 1 1 Try.underlying25 hi0 hz0 hz1 hz2 rfl (by decide) _ _ _ rfl (hrow.out.alloc _) _ _ 2 2 [.int .u8 _, .int .u8 _] rfl (reads_two _ _ _ _) (int_two _ _ _) (by unfold maxLen; omega) (by omega) (by simp; omega) ?_; intro v2 w2 hown2 hg2 hat2)
        all_goals
          rw [tab_hi, tab_lo, cells_two, ← byteCells_app] at hown2
          have hb2 : Below w.heap.size w w2 := (hbw.alloc hbw.size _).drew.grown hg2 (by simp; omega) (fun g hg => own_ge hrow.out g hg)
          clear hg2 hat2
          go_wp2
          go_roundw
          case rel => exact ⟨k + 1, by go_num, by omega, by
            rw [hT.out]
            have hx0 : xs = [] := by rw [HX.out, H0.out]; rfl
            have ht0 : (L s).take k = [] := by rw [H0.out]; rfl
            rw [hx0] at hown2
            rw [ht0]
            exact hown2, hb2⟩
          case measure => simp [intOf]; omega
      · have hk0 : (0 : Int) < (k : Int) := by omega
        have H0 := Lib.hid h0; clear h0
        go_wp2_with (at_builtin; refine wpList_append_any _ rfl (.tmp 16) (.tmp 17) 25 rfl w.heap.size 5 i0 _ 1 1 Try.underlying25 hi0 hz0 hz1 hz2 rfl (by decide) _ xs.length (byteCells xs) rfl (hown.alloc _) _ _ 1 1 [.int .u8 44] rfl (reads_one _ _ _) (int_one _ _) (by unfold maxLen; omega) (by omega) (by simp; omega) ?_; intro v1 w1 hown1 hg1 _)
        have hb1 : Below w.heap.size w w1 := (hbw.alloc hbw.size _).grown hg1 (by simp; omega) (fun g hg => own_ge hown g hg)
        have hsz1 := hb1.size
        have hrow := Lib.hid hown1
        clear hown hg1 hbw
        go_region_law (refine step_append_any _ rfl (.tmp 19) (.tmp 30) 25 rfl w.heap.size 5 i0 _ 1 1 Try.underlying25 hi0 hz0 hz1 hz2 rfl (by decide) _ _ _ rfl (hrow.out.alloc _) _ _ 2 2 [.int .u8 _, .int .u8 _] rfl (reads_two _ _ _ _) (int_two _ _ _) (by unfold maxLen; omega) (by omega) (by simp; omega) ?_; intro v2 w2 hown2 hg2 hat2)
        all_goals
          rw [tab_hi, tab_lo, cells_two] at hown2
          have hb2 : Below w.heap.size w w2 := (hb1.alloc hb1.size _).drew.grown hg2 (by simp; omega) (fun g hg => own_ge hrow.out g hg)
          clear hg2 hat2
          go_wp2
          go_roundw
          case rel => exact ⟨k + 1, by go_num, by omega, by
            rw [hT.out, hex_snoc _ _ (take_ne hlt H0.out), ← HX.out]
            have e1 : byteCells (xs ++ [44, hexD ((s[k]).toNat / 16), hexD ((s[k]).toNat % 16)]) = (byteCells xs ++ [Value.int .u8 44]) ++ byteCells [hexD ((s[k]).toNat / 16), hexD ((s[k]).toNat % 16)] := by
              simp [byteCells]
            rw [e1]
            simpa [Nat.add_assoc] using hown2, hb2⟩
          case measure => simp [intOf]; omega
    · obtain rfl : k = s.size := by omega
      have hlt' : ¬ (s.size : Int) < (s.size : Int) := by omega
      rw [List.take_of_length_le (by rw [L_len]; exact Nat.le_refl _)] at hown
      have hcv := conv_row hown
      go_wp2
      go_ret
      exact ⟨rfl, hbw⟩
end Go.Proofs.Ytknnadihmodnfaa.Lit
