/-
  little's DIGITS, WALKED: Unhex is the bytes of digits, or none.
-/
import Derived.Test.YtknnadihmodnfaaLitH
import Derived.Deep.QuietTactic
import Derived.BigQuiet
namespace Go.Proofs.Ytknnadihmodnfaa.Lit
open Go.ChangeShapes Go.WideShapes Go.ChangeAt Go.RowKit
open Go.Proofs.Ytknnadihmodnfaa
open Go.Proofs.Ytknnadihmodnfaa.Wd
open Go.Lib (byteCells strCells)
set_option linter.unusedVariables false
theorem wrap_u8 {z : Int} (h1 : 0 ≤ z) (h2 : z < 256) : IntKind.u8.wrap z = z := by simp [IntKind.wrap, IntKind.bits, IntKind.signed]; omega
set_option maxRecDepth 20000 in
set_option maxHeartbeats 1600000 in
theorem digit_any (b : UInt8) (w : World) :
    Calls Try.prog 40 #[.int .u8 (b.toNat : Int)] w fun e w' => e = .returned (.int .i64 (digV b)) ∧ w' = w := by
  have hb := b.toNat_lt
  unfold digV
  generalize b.toNat = n at *
  by_cases h1 : 48 ≤ n ∧ n ≤ 57
  · rw [if_pos h1]
    obtain ⟨h1, h2⟩ := h1
    have e1 : (48 : Int) ≤ (n : Int) := by omega
    have e2 : (n : Int) ≤ 57 := by omega
    go_enter Try.func40, Try.ntmps40
    go_wp2
    go_ret
    exact ⟨by go_num, rfl⟩
  · rw [if_neg h1]
    by_cases h2 : 97 ≤ n ∧ n ≤ 102
    · rw [if_pos h2]
      obtain ⟨h2, h3⟩ := h2
      have e1 : (97 : Int) ≤ (n : Int) := by omega
      have e2 : (n : Int) ≤ 102 := by omega
      have e3 : (48 : Int) ≤ (n : Int) := by omega
      have e4 : ¬ (n : Int) ≤ 57 := by omega
      clear h1
      go_enter Try.func40, Try.ntmps40
      go_wp2
      go_ret
      exact ⟨by go_num, rfl⟩
    · rw [if_neg h2]
      by_cases h3 : 65 ≤ n ∧ n ≤ 70
      · rw [if_pos h3]
        obtain ⟨h3, h4⟩ := h3
        have e1 : (65 : Int) ≤ (n : Int) := by omega
        have e2 : (n : Int) ≤ 70 := by omega
        have e3 : (48 : Int) ≤ (n : Int) := by omega
        have e4 : ¬ (n : Int) ≤ 57 := by omega
        have e5 : ¬ (97 : Int) ≤ (n : Int) := by omega
        clear h1 h2
        go_enter Try.func40, Try.ntmps40
        go_wp2
        go_ret
        exact ⟨by go_num, rfl⟩
      · rw [if_neg h3]
        have hh : n < 48 ∨ (57 < n ∧ n < 65) ∨ (70 < n ∧ n < 97) ∨ 102 < n := by omega
        clear h1 h2 h3
        rcases hh with q | ⟨q, q'⟩ | ⟨q, q'⟩ | q
        · have e1 : ¬ (48 : Int) ≤ (n : Int) := by omega
          have e2 : ¬ (65 : Int) ≤ (n : Int) := by omega
          have e3 : ¬ (97 : Int) ≤ (n : Int) := by omega
          go_enter Try.func40, Try.ntmps40
          go_wp2
          go_ret
          exact ⟨rfl, rfl⟩
        · have e1 : (48 : Int) ≤ (n : Int) := by omega
          have e1' : ¬ (n : Int) ≤ 57 := by omega
          have e2 : ¬ (65 : Int) ≤ (n : Int) := by omega
          have e3 : ¬ (97 : Int) ≤ (n : Int) := by omega
          go_enter Try.func40, Try.ntmps40
          go_wp2
          go_ret
          exact ⟨rfl, rfl⟩
        · have e1 : (48 : Int) ≤ (n : Int) := by omega
          have e1' : ¬ (n : Int) ≤ 57 := by omega
          have e2 : (65 : Int) ≤ (n : Int) := by omega
          have e2' : ¬ (n : Int) ≤ 70 := by omega
          have e3 : ¬ (97 : Int) ≤ (n : Int) := by omega
          go_enter Try.func40, Try.ntmps40
          go_wp2
          go_ret
          exact ⟨rfl, rfl⟩
        · have e1 : (48 : Int) ≤ (n : Int) := by omega
          have e1' : ¬ (n : Int) ≤ 57 := by omega
          have e2 : (65 : Int) ≤ (n : Int) := by omega
          have e2' : ¬ (n : Int) ≤ 70 := by omega
          have e3 : (97 : Int) ≤ (n : Int) := by omega
          have e3' : ¬ (n : Int) ≤ 102 := by omega
          go_enter Try.func40, Try.ntmps40
          go_wp2
          go_ret
          exact ⟨rfl, rfl⟩
/-- the bytes of digits, and why there are none -/
def unV (l : List UInt8) : List UInt8 := (unh l).getD []
def unE (l : List UInt8) : Int := if unh l = none then 4 else 0
theorem un_no {l : List UInt8} (h : unh l = none) : unV l = [] ∧ unE l = 4 := by unfold unV unE; rw [h]; exact ⟨rfl, rfl⟩
theorem un_yes {l o : List UInt8} (h : unh l = some o) : unV l = o ∧ unE l = 0 := by unfold unV unE; rw [h]; exact ⟨rfl, rfl⟩
theorem unhP_len : ∀ {l o : List UInt8}, unhP l = some o → l.length % 3 = 2
  | [], o, h => by simp [unhP] at h
  | [a], o, h => by simp [unhP] at h
  | [a, b], o, h => rfl
  | a :: b :: c :: r, o, h => by
    unfold unhP at h; split at h
    · obtain ⟨x, hx, rfl⟩ := Option.map_eq_some_iff.1 h
      have := unhP_len hx
      simp only [List.length_cons]; omega
    · cases h
theorem unh_len {l : List UInt8} (h0 : l ≠ []) (h : l.length % 3 ≠ 2) : unh l = none := by
  unfold unh; rw [if_neg h0]
  cases hh : unhP l with
  | none => rfl
  | some o => exact absurd (unhP_len hh) h
theorem drop_at (s : ByteArray) (p : Nat) (h : p < s.size) : (L s).drop p = s[p] :: (L s).drop (p + 1) := by
  have hl : p < (L s).length := by rw [L_len]; exact h
  rw [List.drop_eq_getElem_cons hl]
  congr 1
theorem un_bad (s : ByteArray) (p : Nat) (h : p < s.size) (h1 : p + 1 < s.size) (hk : okD s[p] s[p + 1] = false) : unh ((L s).drop p) = none := by
  rw [drop_at s p h, drop_at s (p + 1) h1]
  unfold unh; rw [if_neg (by simp)]
  cases (L s).drop (p + 1 + 1) with
  | nil => unfold unhP; rw [hk]; rfl
  | cons c r => unfold unhP; rw [hk]; rfl
theorem un_end (s : ByteArray) (p : Nat) (h : p < s.size) (h1 : p + 1 < s.size) (h2 : p + 2 = s.size) (hk : okD s[p] s[p + 1] = true) :
    unh ((L s).drop p) = (unh ((L s).drop (p + 3))).map (byteD s[p] s[p + 1] :: ·) := by
  have e : (L s).drop (p + 1 + 1) = [] := List.drop_eq_nil_of_le (by rw [L_len]; omega)
  have e' : (L s).drop (p + 3) = [] := List.drop_eq_nil_of_le (by rw [L_len]; omega)
  rw [drop_at s p h, drop_at s (p + 1) h1, e, e']
  unfold unh; rw [if_neg (by simp), if_pos rfl]
  unfold unhP; rw [if_pos hk]; rfl
theorem un_comma (s : ByteArray) (p : Nat) (h : p < s.size) (h1 : p + 1 < s.size) (h2 : p + 2 < s.size) (hc : ¬ s[p + 2] = 44) : unh ((L s).drop p) = none := by
  rw [drop_at s p h, drop_at s (p + 1) h1, drop_at s (p + 1 + 1) h2]
  unfold unh; rw [if_neg (by simp)]
  unfold unhP; rw [if_neg (fun e => hc e.2)]
theorem un_more (s : ByteArray) (p : Nat) (h : p < s.size) (h1 : p + 1 < s.size) (h2 : p + 2 < s.size) (h3 : p + 3 < s.size) (hk : okD s[p] s[p + 1] = true) (hc : s[p + 2] = 44) :
    unh ((L s).drop p) = (unh ((L s).drop (p + 3))).map (byteD s[p] s[p + 1] :: ·) := by
  rw [drop_at s p h, drop_at s (p + 1) h1, drop_at s (p + 1 + 1) h2]
  unfold unh; rw [if_neg (by simp), if_neg (by intro e; have := congrArg List.length e; rw [List.length_drop, L_len] at this; simp at this; omega)]
  conv => lhs; unfold unhP
  rw [if_pos ⟨hk, hc⟩]
theorem or_all : ∀ x y : Fin 16, bits .or .i64 ((x.val : Nat) * 2 ^ 4) (y.val : Nat) = ((16 * x.val + y.val : Nat) : Int) := by decide +kernel
theorem or_dig {x y : Int} (h1 : 0 ≤ x ∧ x < 16) (h2 : 0 ≤ y ∧ y < 16) : bits .or .i64 (x * 16) y = 16 * x + y := by
  have := or_all ⟨x.toNat, by omega⟩ ⟨y.toNat, by omega⟩
  have e1 : ((x.toNat : Nat) : Int) = x := by omega
  have e2 : ((y.toNat : Nat) : Int) = y := by omega
  simp only [e1, e2] at this
  rw [show (2 : Int) ^ 4 = 16 from rfl] at this
  rw [this]; omega
theorem byte_val {a b : UInt8} (hk : okD a b = true) : bits .or .i64 (digV a * 16) (digV b) % 256 = ((byteD a b).toNat : Int) := by
  obtain ⟨h1, h2⟩ := ok_iff.1 hk
  have a1 := (low_hex a h1).2
  have b1 := (low_hex b h2).2
  rw [or_dig ⟨h1, by omega⟩ ⟨h2, by omega⟩, byte_of hk]
  omega
theorem ret_no {l : List UInt8} (h : unh l = none) : Ending.returned (.tuple #[.string ⟨#[]⟩, .int .i64 4]) = Ending.returned (.tuple #[.string ⟨(unV l).toArray⟩, .int .i64 (unE l)]) := by
  rw [(un_no h).1, (un_no h).2]
theorem ret_yes {l o : List UInt8} (h : unh l = some o) : Ending.returned (.tuple #[.string ⟨o.toArray⟩, .int .i64 0]) = Ending.returned (.tuple #[.string ⟨(unV l).toArray⟩, .int .i64 (unE l)]) := by
  rw [(un_yes h).1, (un_yes h).2]
theorem empty_iff (s : ByteArray) (h : s.size = 0) : s = ⟨#[]⟩ := by
  have : s.data = #[] := Array.eq_empty_of_size_eq_zero h
  cases s; simp at this; rw [this]
set_option maxRecDepth 20000 in
set_option maxHeartbeats 3200000 in
theorem unhex_any (s : ByteArray) (w : World) (hs : s.size ≤ 4000000) :
    Calls Try.prog 13 #[.string s] w fun e w' => e = .returned (.tuple #[.string ⟨(unV (L s)).toArray⟩, .int .i64 (unE (L s))]) ∧ Below w.heap.size w w' := by
  obtain ⟨i0, hi0, hz0, hz1, hz2⟩ := info_parts byte_info
  by_cases hz : s.size = 0
  · obtain rfl := empty_iff s hz
    go_enter Try.func13, Try.ntmps13
    go_wp2
    go_ret2
    exact ⟨rfl, Below.refl _ _⟩
  · have hne : s.toList.isEmpty = false := by
      rw [Lib.toList_data, List.isEmpty_eq_false_iff]; intro e; have := L_len s; rw [show L s = [] from e] at this; simp at this; omega
    by_cases h3 : s.size % 3 = 2
    · have h3' : ((s.size : Int)).tmod 3 = 2 := by rw [Int.tmod_eq_emod_of_nonneg (by omega)]; omega
      go_enter Try.func13, Try.ntmps13
      go_wp2_with (at_make; refine wpList_make_own _ rfl _ _ 25 rfl w.heap.size 5 i0 (.int .u8 0) 1 Try.underlying25 hi0 hz0 hz1 .i64 .i64 _ (s.size / 3 + 1) rfl rfl (by first | omega | (rw [Int.tdiv_eq_ediv_of_nonneg (by omega)]; omega)) (by rw [hz2]; omega) (by unfold maxLen; omega) (Nat.le_refl _) ?_; intro w0 hown0 hgrow0)
      have hb0 : Below w.heap.size w w0 := (Below.refl _ _).grown hgrow0 (Nat.le_refl _) (by simp)
      clear hgrow0
      go_loopw [4, 5, 6, 7] (fun v i _ _ w' => ∃ (j p : Nat) (o : List UInt8), i = .int .i64 p ∧ p = 3 * j ∧ p ≤ s.size + 1 ∧ w'.ownsRow w.heap.size 5 1 v o.length (byteCells o) ∧ o.length ≤ j ∧ unh (L s) = (unh ((L s).drop p)).map (o ++ ·) ∧ Below w.heap.size w w') (fun _ i _ _ _ => s.size + 3 - (intOf i).toNat)
      case atStart => exact ⟨0, 0, [], rfl, rfl, Nat.zero_le _, by simpa [byteCells] using hown0, Nat.le_refl _, by simp, hb0⟩
      case round =>
        obtain ⟨j, p, o, rfl, hpj, hp, hown, ho, hun, hbw⟩ := hrel
        have HU := Lib.hid hun; clear hun
        by_cases hlt : p < s.size
        · have hlt' : (p : Int) < (s.size : Int) := by omega
          have hlt1 : p + 1 < s.size := by omega
          have hlt1' : (p : Int) + 1 < (s.size : Int) := by omega
          have hol : o.length ≤ 4000000 := by omega
          have HP := Lib.hid hpj; clear hpj
          have hw1 : IntKind.i64.wrap ((p : Int) + 1) = (p : Int) + 1 := by simp [IntKind.wrap, IntKind.bits, IntKind.signed]; omega
          have hp0 : 0 ≤ (p : Int) + 1 := by omega
          go_wp2
          go_quiet (first | (go_at_call 40; refine Calls.quiet_of_same (digit_any _ _)))
          have hown' : (wr.drewN nq).ownsRow w.heap.size 5 1 u4 o.length (byteCells o) := hown
          have hb' : Below w.heap.size w (wr.drewN nq) := bdrewN hbw nq
          have hsz' := hb'.size
          have hsz := hbw.size
          clear hown
          by_cases hk : okD s[p] s[p + 1] = true
          · obtain ⟨x1, y1⟩ := ok_iff.1 hk
            have x2 := (low_hex _ x1).2
            have y2 := (low_hex _ y1).2
            have x2' : digV s[p] < 16 := by omega
            have y2' : digV s[p + 1] < 16 := by omega
            clear x2 y2
            by_cases h2 : p + 2 < s.size
            · have h2' : (p : Int) + 2 < (s.size : Int) := by omega
              have hp3 : p + 3 < s.size := by have := HP.out; omega
              by_cases hc : s[p + 2] = 44
              · have UN := Lib.hid (un_more s p hlt hlt1 h2 hp3 hk hc)
                have hc' : ((s[p + 2]).toNat : Int) = 44 := by rw [hc]; rfl
                clear hc
                go_wp2_with (at_builtin; refine wpList_append_any _ rfl (.tmp 54) (.tmp 60) 25 rfl w.heap.size 5 i0 _ 1 1 Try.underlying25 hi0 hz0 hz1 hz2 rfl (by decide) _ o.length (byteCells o) rfl (hown'.alloc _) _ _ 1 1 [.int .u8 (bits .or .i64 (digV s[p] * 16) (digV s[p + 1]) % 256)] rfl (reads_one _ _ _) (int_one _ _) (by unfold maxLen; omega) (by omega) (by simp; omega) ?_; intro v1 w1 hown1 hg1 _)
                have hb1 : Below w.heap.size w w1 := (hb'.alloc hsz' _).grown hg1 (by simp; omega) (fun g hg => own_ge hown' g hg)
                rw [byte_val hk, cells_one, ← byteCells_app] at hown1
                clear hg1
                go_roundw
                case rel => exact ⟨j + 1, p + 3, o ++ [byteD s[p] s[p + 1]], by go_num, by have := HP.out; omega, by omega, by simpa using hown1, by simp; omega, by
                  rw [HU.out, UN.out]
                  cases unh ((L s).drop (p + 3)) <;> simp, hb1⟩
                case measure => simp [intOf]; omega
              · have e0 := Lib.hid (show unh (L s) = none by rw [HU.out, un_comma s p hlt hlt1 h2 hc]; rfl)
                have hc' : ¬ ((s[p + 2]).toNat : Int) = 44 := by
                  intro e; apply hc; apply UInt8.toNat_inj.1; show (s[p + 2]).toNat = 44; omega
                have hcb : (((s[p + 2]).toNat : Int) != 44) = true := by rw [bne_iff_ne]; exact hc'
                clear hc hc'
                go_wp2
                go_ret2
                exact ⟨ret_no e0.out, hb'⟩
            · have h2' : ¬ (p : Int) + 2 < (s.size : Int) := by omega
              have UN := Lib.hid (un_end s p hlt hlt1 (by omega) hk)
              go_wp2_with (at_builtin; refine wpList_append_any _ rfl (.tmp 54) (.tmp 60) 25 rfl w.heap.size 5 i0 _ 1 1 Try.underlying25 hi0 hz0 hz1 hz2 rfl (by decide) _ o.length (byteCells o) rfl (hown'.alloc _) _ _ 1 1 [.int .u8 (bits .or .i64 (digV s[p] * 16) (digV s[p + 1]) % 256)] rfl (reads_one _ _ _) (int_one _ _) (by unfold maxLen; omega) (by omega) (by simp; omega) ?_; intro v1 w1 hown1 hg1 _)
              have hb1 : Below w.heap.size w w1 := (hb'.alloc hsz' _).grown hg1 (by simp; omega) (fun g hg => own_ge hown' g hg)
              rw [byte_val hk, cells_one, ← byteCells_app] at hown1
              clear hg1
              go_roundw
              case rel => exact ⟨j + 1, p + 3, o ++ [byteD s[p] s[p + 1]], by go_num, by have := HP.out; omega, by omega, by simpa using hown1, by simp; omega, by
                rw [HU.out, UN.out]
                cases unh ((L s).drop (p + 3)) <;> simp, hb1⟩
              case measure => simp [intOf]; omega
          · have e0 := Lib.hid (show unh (L s) = none by rw [HU.out, un_bad s p hlt hlt1 (by simpa using hk)]; rfl)
            have hk' : digV s[p] < 0 ∨ (0 ≤ digV s[p] ∧ digV s[p + 1] < 0) := by
              rw [ok_iff] at hk; omega
            clear hk
            rcases hk' with q | ⟨q, q'⟩
            all_goals
              go_wp2
              go_ret2
              exact ⟨ret_no e0.out, hb'⟩
        · have hlt' : ¬ (p : Int) < (s.size : Int) := by omega
          have e0 : (L s).drop p = [] := List.drop_eq_nil_of_le (by rw [L_len]; omega)
          have e1 := Lib.hid (show unh (L s) = some o by rw [HU.out, e0]; simp [unh])
          have hcv := conv_row hown
          clear e0 hpj
          go_wp2
          go_ret2
          exact ⟨ret_yes e1.out, hbw⟩
    · have e0 := un_no (unh_len (l := L s) (by intro e; have := L_len s; rw [e] at this; simp at this; omega) (by rw [L_len]; exact h3))
      rw [e0.1, e0.2]
      have h3' : (((s.size : Int)).tmod 3 != 2) = true := by rw [Int.tmod_eq_emod_of_nonneg (by omega)]; simp; omega
      go_enter Try.func13, Try.ntmps13
      go_wp2
      go_ret2
      exact ⟨rfl, Below.refl _ _⟩
end Go.Proofs.Ytknnadihmodnfaa.Lit
