/-
  TopDigits, WALKED: numbers, written as bytes, told by digits, and read, are what they were.
-/
import Derived.Test.YtknnadihmodnfaaScnJ
import Derived.Test.YtknnadihmodnfaaLitL
namespace Go.Proofs.Ytknnadihmodnfaa.TopG
open Go.ChangeShapes Go.WideShapes Go.ChangeAt Go.RowKit
open Go.Proofs.Ytknnadihmodnfaa
open Go.Proofs.Ytknnadihmodnfaa.Wd
open Go.Proofs.Ytknnadihmodnfaa.Lit
set_option linter.unusedVariables false
theorem reads_lit2 (w : World) (t : TypeId) (u v : Value) : Reads (w.alloc (.cells #[u, v] t)) (w.heap.size + 1) 1 (some ⟨w.heap.size, 0, none⟩) 2 [u, v] := reads_two w t u v
theorem begins_join (w : World) (t : TypeId) :
    Calls Try.prog 23 #[.slice (some ⟨w.heap.size, 0, none⟩) 2 2] (w.alloc (.cells #[.string ⟨#[97, 32, 98]⟩, .string ⟨#[]⟩] t)) fun e w' => e = .returned (.tuple #[.string ⟨#[34, 97, 32, 98, 34, 32, 34, 34]⟩, .int .i64 0]) ∧ Below w.heap.size w w' := by
  have h := Scn.join_any (some ⟨w.heap.size, 0, none⟩) 2 2 (w.heap.size + 1) [⟨#[97, 32, 98]⟩, ⟨#[]⟩] (w.alloc (.cells #[.string ⟨#[97, 32, 98]⟩, .string ⟨#[]⟩] t)) (reads_two w t _ _) (by simp) (by decide) (by decide)
  refine h.mono fun e w' ⟨h1, h2⟩ => ⟨?_, ((Below.refl _ _).alloc (Nat.le_refl _) _).trans (h2.mono (by simp))⟩
  rw [h1]
  have e1 : Scn.joiV [⟨#[97, 32, 98]⟩, ⟨#[]⟩] = [34, 97, 32, 98, 34, 32, 34, 34] := by decide +kernel
  have e2 : Scn.joiE [⟨#[97, 32, 98]⟩, ⟨#[]⟩] = 0 := by decide +kernel
  rw [e1, e2]
set_option maxRecDepth 20000 in
set_option maxHeartbeats 1600000 in
theorem begins_any (w : World) :
    Calls Try.prog 22 #[] w fun e w' => e = .returned (.bool true) ∧ Below w.heap.size w w' := by
  go_enter Try.func22, Try.ntmps22
  go_wp2_with fail
  refine (begins_join w _).mono ?_; rintro e w1 ⟨rfl, hb1⟩
  go_wp2_with fail
  refine (unhex_at (by decide) (v := [0]) (e0 := 0) (by decide +kernel) (by decide +kernel)).mono ?_; rintro e w2 ⟨rfl, hb2⟩
  go_wp2_with fail
  go_ret
  exact ⟨rfl, hb1.trans (hb2.mono hb1.size)⟩
def encN (N : Nat) (l : List Nat) : List UInt8 := l.flatMap fun n => putN n N
theorem encN_len (N : Nat) (l : List Nat) : (encN N l).length = N * l.length := by
  induction l with
  | nil => rfl
  | cons a t ih =>
    have e : encN N (a :: t) = putN a N ++ encN N t := rfl
    rw [e, List.length_append, ih, putN_len, List.length_cons, Nat.mul_add]; omega
theorem encN_take {N : Nat} {l : List Nat} {k : Nat} (h : k < l.length) : encN N (l.take (k + 1)) = encN N (l.take k) ++ putN l[k] N := by
  rw [List.take_succ_eq_append_getElem h]
  show (l.take k ++ [l[k]]).flatMap _ = _
  rw [List.flatMap_append]
  show _ ++ [l[k]].flatMap _ = _
  rw [List.flatMap_singleton]
  rfl
theorem encN_drop {N : Nat} {l : List Nat} {k : Nat} (h : k < l.length) : encN N (l.drop k) = putN l[k] N ++ encN N (l.drop (k + 1)) := by
  rw [List.drop_eq_getElem_cons h]; rfl
theorem leN_put (n k : Nat) : leN (putN n k) = n % 256 ^ k := by
  induction k with
  | zero => simp [putN, leN, Nat.mod_one]
  | succ k ih =>
    rw [putN_succ, leN_app, ih, putN_len]
    have e : (byteN n k).toNat = n / 256 ^ k % 256 := by
      unfold byteN
      rw [show (256 : Nat) ^ k = 2 ^ (8 * k) by rw [Nat.pow_mul]]
      simp
    simp only [leN, Nat.mul_zero, Nat.add_zero]
    rw [e, Nat.pow_succ, Nat.mod_mul]
theorem L_ext (s : ByteArray) (a b : Nat) : L (s.extract a b) = ((L s).take b).drop a := by
  unfold L; rw [ByteArray.data_extract, Array.toList_extract, List.extract_eq_take_drop]
  rw [List.drop_take]
theorem gd_next {x : ByteArray} {a r : List UInt8} {n : Int} (hx : L x = a ++ r) (ha : (a.length : Int) = n) (h1 : 1 ≤ n) (h8 : n ≤ 8) :
    tkO x false (getW n) = true ∧ L (tkS x false (getW n)) = r ∧ getV x false n = leN a := by
  obtain ⟨N, rfl⟩ : ∃ N : Nat, n = (N : Int) := ⟨n.toNat, by omega⟩
  have ha : a.length = N := by omega
  have hg : getW (N : Int) = N := by unfold getW; rw [if_pos ⟨by omega, by omega⟩]
  have hl : x.size = N + r.length := by rw [← L_len, hx, List.length_append, ha]
  obtain ⟨t1, t2, t3⟩ := tk_yes (s := x) (n := (N : Int)) (by omega) (by omega)
  refine ⟨by rw [hg, t1], ?_, ?_⟩
  · rw [hg, t3, L_ext, Int.toNat_natCast, List.take_of_length_le (by rw [L_len]; exact Nat.le_refl _), hx, ← ha]; simp
  · unfold getV
    rw [hg, t2]
    have e : (x.extract 0 ((N : Int)).toNat).data.toList = a := by
      show L _ = a
      rw [L_ext, Int.toNat_natCast, hx, ← ha]; simp
    rw [e]
/-- the highest bits off -/
theorem cut_bits (z N : Nat) (h1 : 1 ≤ N) (h8 : N ≤ 8) (hz : z < 18446744073709551616) :
    IntKind.u64.wrap ((z : Int) * 2 ^ (64 - 8 * (N : Int)).toNat) / 2 ^ (64 - 8 * (N : Int)).toNat = ((leN (putN z N) : Nat) : Int) := by
  rw [leN_put, IntKind.wrap_u64]
  have e : (64 - 8 * (N : Int)).toNat = 64 - 8 * N := by omega
  rw [e]
  have h256 : (256 : Nat) ^ N = 2 ^ (8 * N) := by rw [Nat.pow_mul]
  have h64 : (18446744073709551616 : Nat) = 2 ^ (8 * N) * 2 ^ (64 - 8 * N) := by rw [← Nat.pow_add, show 8 * N + (64 - 8 * N) = 64 by omega]
  have hm : (z * 2 ^ (64 - 8 * N)) % 18446744073709551616 / 2 ^ (64 - 8 * N) = z % 256 ^ N := by
    rw [h64, Nat.mul_mod_mul_right, Nat.mul_div_cancel _ (Nat.two_pow_pos _), h256]
  rw [← hm]
  have hp : (((2 : Nat) ^ (64 - 8 * N) : Nat) : Int) = (2 : Int) ^ (64 - 8 * N) := by simp
  rw [← hp]
  generalize (2 : Nat) ^ (64 - 8 * N) = H
  exact (Int.natCast_ediv _ _).symm ▸ (by rw [Int.natCast_emod, Int.natCast_mul]; rfl)
set_option maxRecDepth 20000 in
set_option maxHeartbeats 6400000 in
theorem digits_any (A : Option Addr) (n c : Nat) (M : Int) (l : List Nat) (w : World) (hr : Reads w w.heap.size 1 A n (l.map fun z : Nat => Value.int .u64 (z : Int))) (hN : ∀ z ∈ l, z < 18446744073709551616) (hn : n ≤ 9223372036854775807) :
    Calls Try.prog 6 #[.slice A n c, .int .i64 M] w fun e w' => e = .returned (.bool true) ∧ Below w.heap.size w w' := by
  by_cases hq : 60 < n ∨ M < 1 ∨ 8 < M
  · have hq' : (60 : Int) < (n : Int) ∨ (¬ (60 : Int) < (n : Int) ∧ M < 1) ∨ (¬ (60 : Int) < (n : Int) ∧ ¬ M < 1 ∧ 8 < M) := by omega
    clear hq hr hN
    rcases hq' with h1 | ⟨h1, h2⟩ | ⟨h1, h2, h3⟩
    all_goals
      go_enter Try.func6, Try.ntmps6
      go_wp2_with (go_at_call 22; refine (begins_any _).mono ?_; rintro e w1 ⟨rfl, hb1⟩)
      go_ret
      exact ⟨rfl, hb1⟩
  · have h60 : ¬ (60 : Int) < (n : Int) := by omega
    have hM1 : ¬ M < 1 := by omega
    have hM8 : ¬ 8 < M := by omega
    have hn60 : n ≤ 60 := by omega
    obtain ⟨N, rfl⟩ : ∃ N : Nat, M = (N : Int) := ⟨M.toNat, by omega⟩
    have hN1 : 1 ≤ N := by omega
    have hN8 : N ≤ 8 := by omega
    clear hq
    have hll : l.length = n := by have := hr.1; simpa using this
    have hpl : ∀ z, putL (N : Int) z = putN z N := fun z => by unfold putL; rw [if_pos ⟨by omega, by omega⟩]; rfl
    have HPL := Lib.hid hpl; clear hpl
    go_enter Try.func6, Try.ntmps6
    go_wp2_with (go_at_call 22; refine (begins_any _).mono ?_; rintro e w1 ⟨rfl, hb1⟩)
    have hsz1 := hb1.size
    have hw1 := Wr.new w1
    have hb2 := hb1.alloc hsz1 (.cells #[.pointer none, .slice none 0 0] 27)
    go_loopw [7, 28] (fun _ i w' => ∃ (k : Nat), i = .int .i64 k ∧ k ≤ n ∧ Wr w' w1.heap.size (encN N (l.take k)) ∧ Below w.heap.size w w') (fun _ i _ => n - (intOf i).toNat)
    case atStart => exact ⟨0, rfl, Nat.zero_le _, by simpa [encN] using hw1, hb2⟩
    case round =>
      obtain ⟨k, rfl, hk, hw, hbw⟩ := hrel
      by_cases hlt : k < n
      · have hlt' : (k : Int) < (n : Int) := by omega
        obtain ⟨ad, u, rfl, had, hu, hcell⟩ := (hr.below hbw).at_ hlt
        have hkl : k < l.length := by omega
        have hxl : (encN N (l.take k)).length ≤ 1200 := by
          rw [encN_len, List.length_take]
          have : N * min k l.length ≤ 8 * 60 := Nat.mul_le_mul hN8 (by omega)
          omega
        have hT := Lib.hid (encN_take (N := N) hkl)
        simp [hkl] at hu
        subst hu
        have hlz := hN _ (List.getElem_mem hkl)
        generalize l[k] = z at *
        go_wp2_with fail
        refine (put_at hw hlz (by omega) (cs := encN N (l.take (k + 1))) (by rw [HPL.out, hT.out])).mono ?_; rintro e w2 ⟨rfl, hb2', hw2⟩
        go_wp2
        go_roundw
        case rel => exact ⟨k + 1, by go_num, by omega, hw2, hbw.trans (hb2'.mono hsz1)⟩
        case measure => simp [intOf]; omega
      · obtain rfl : k = n := by omega
        have hlt' : ¬ (k : Int) < (k : Int) := by omega
        rw [← hll, List.take_length] at hw
        have hbsz := hbw.size
        go_wp2_with fail
        refine (out_any _ _ _ hw).mono ?_; rintro e w2 ⟨rfl, rfl⟩
        have hel : (encN N l).length ≤ 480 := by
          rw [encN_len]
          have : N * l.length ≤ 8 * 60 := Nat.mul_le_mul hN8 (by omega)
          omega
        have hs1 : ByteArray.size ⟨(encN N l).toArray⟩ ≤ 1000000 := by rw [← L_len]; show (encN N l).length ≤ _; omega
        go_wp2_with fail
        refine (hex_any _ _ hs1).mono ?_; rintro e w3 ⟨rfl, hb3⟩
        have hun := unh_of (encN N l)
        have hhl : ByteArray.size ⟨(hexL (L ⟨(encN N l).toArray⟩)).toArray⟩ ≤ 4000000 := by rw [← L_len]; show (hexL (encN N l)).length ≤ _; rw [hex_len]; omega
        go_wp2_with fail
        refine (unhex_at hhl (v := encN N l) (e0 := 0) (un_yes hun).1 (un_yes hun).2).mono ?_; rintro e w4 ⟨rfl, hb4⟩
        have B3 := hbw.trans (hb3.mono hbsz)
        have B4 := B3.trans (hb4.mono B3.size)
        clear hb3 hb4 B3 hun hhl hs1
        generalize hx0 : (⟨(encN N l).toArray⟩ : ByteArray) = x0
        have hx1 : L x0 = encN N l := by rw [← hx0]
        have hxb : x0.size ≤ 1200 := by rw [← L_len, hx1]; omega
        clear hx0
        go_wp2_with fail
        refine (open_any _ _).mono ?_; rintro e w5 ⟨rfl, hw5⟩
        have hrd : Rd w5 w4.heap.size x0 false := by rw [hw5]; exact Blk.new _ _ _
        have hb5 : Below w.heap.size w w5 := by rw [hw5]; exact B4.alloc B4.size _
        have hg0 : w.heap.size ≤ w4.heap.size := B4.size
        clear hw5 B4
        generalize w4.heap.size = g0 at *
        have HX := Lib.hid hx1; clear hx1
        go_wp2_with fail
        go_loopw [12, 52] (fun _ i w' => ∃ (q : Nat) (x : ByteArray), i = .int .i64 q ∧ q ≤ k ∧ Rd w' g0 x false ∧ L x = encN N (l.drop q) ∧ Below w.heap.size w w') (fun _ i _ => k - (intOf i).toNat)
        case atStart => exact ⟨0, x0, rfl, Nat.zero_le _, hrd, HX.out, hb5⟩
        case round =>
          obtain ⟨q, x, rfl, hq, hrx, hx, hbq⟩ := hrel
          by_cases hlt : q < k
          · have hlt2 : (q : Int) < (k : Int) := by omega
            obtain ⟨ad, u, rfl, had, hu, hcell⟩ := (hr.below hbq).at_ hlt
            have hkl : q < l.length := by omega
            simp [hkl] at hu
            subst hu
            have hxs : x.size ≤ 9223372036854775807 := by
              rw [← L_len, hx, encN_len, List.length_drop]
              have : N * (l.length - q) ≤ 8 * 60 := Nat.mul_le_mul hN8 (by omega)
              omega
            rw [encN_drop hkl] at hx
            have hlz := hN _ (List.getElem_mem hkl)
            generalize l[q] = z at *
            obtain ⟨t1, t2, t3⟩ := gd_next (n := (N : Int)) hx (by rw [putN_len]) (by omega) (by omega)
            have hcb := cut_bits z N hN1 hN8 hlz
            have HT2 := Lib.hid t2
            have e1 : IntKind.i64.wrap (8 * (N : Int)) = 8 * (N : Int) := by simp [IntKind.wrap, IntKind.bits, IntKind.signed]; omega
            have e2 : IntKind.i64.wrap (64 - 8 * (N : Int)) = 64 - 8 * (N : Int) := by simp [IntKind.wrap, IntKind.bits, IntKind.signed]; omega
            have e3 : 0 ≤ 64 - 8 * (N : Int) := by omega
            have e4 : 64 - 8 * (N : Int) ≤ 64 := by omega
            clear hx hr hN t2
            go_wp2_with fail
            have hrd2 : Rd wr.drew g0 x false := hrx
            go_region_with (go_at_call 25; refine (Lit.get_at hrd2 hxs t3 rfl (b' := false) (by rw [t1]; rfl)).mono ?_; rintro e w6 ⟨rfl, hr6, hg6⟩)
            all_goals
              have B6 : Below w.heap.size w w6 := (bdrewN hbq 1).grown hg6 hbq.size (fun k hk => by injection hk with hk; omega)
              go_wp2
              go_roundw
              case rel => exact ⟨q + 1, _, by go_num, by omega, hr6, HT2.out, B6⟩
              case measure => simp [intOf]; omega
          · obtain rfl : q = k := by omega
            have hlt2 : ¬ (q : Int) < (q : Int) := by omega
            rw [← hll, List.drop_length] at hx
            have hxe : x = ⟨#[]⟩ := empty_iff x (by rw [← L_len, hx]; rfl)
            subst hxe
            clear hr hN
            go_wp2_with fail
            refine (left_any _ _ _ _ hrx).mono ?_; rintro e w6 ⟨rfl, rfl⟩
            go_wp2_with fail
            refine (bad_any _ _ _ _ hrx).mono ?_; rintro e w6 ⟨rfl, rfl⟩
            go_wp2_with fail
            go_ret
            exact ⟨rfl, hbq⟩
end Go.Proofs.Ytknnadihmodnfaa.TopG
