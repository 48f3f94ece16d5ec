/-
  LittleBack, WALKED: numbers that are written are read as they were; bytes are read from their digits.
-/
import Derived.Test.YtknnadihmodnfaaLitL
namespace Go.Proofs.Ytknnadihmodnfaa.Lit
open Go.ChangeShapes Go.WideShapes Go.ChangeAt Go.RowKit
open Go.Proofs.Ytknnadihmodnfaa
open Go.Proofs.Ytknnadihmodnfaa.Wd
open Go.Lib (byteCells strCells)
set_option linter.unusedVariables false
/-- a number with a sign as one without -/
def u64 (z : Int) : Nat := (z % 18446744073709551616).toNat
theorem u64_lt (z : Int) : u64 z < 18446744073709551616 := by unfold u64; omega
theorem u64_wrap (z : Int) : IntKind.u64.wrap z = (u64 z : Int) := by rw [IntKind.wrap_u64]; unfold u64; omega
def enc (z : Int) : List UInt8 := putN (u64 z) 8 ++ putN (u64 z) 4
def encs (l : List Int) : List UInt8 := l.flatMap enc
theorem enc_len (z : Int) : (enc z).length = 12 := by simp [enc, putN_len]
theorem encs_len (l : List Int) : (encs l).length = 12 * l.length := by
  induction l with
  | nil => rfl
  | cons a t ih =>
    have e : encs (a :: t) = enc a ++ encs t := rfl
    rw [e, List.length_append, ih, enc_len, List.length_cons]; omega
theorem encs_take {l : List Int} {k : Nat} (h : k < l.length) : encs (l.take (k + 1)) = encs (l.take k) ++ putN (u64 l[k]) 8 ++ putN (u64 l[k]) 4 := by
  rw [List.take_succ_eq_append_getElem h, List.append_assoc]
  show (l.take k ++ [l[k]]).flatMap enc = _
  rw [List.flatMap_append]
  show _ ++ [l[k]].flatMap enc = _
  rw [List.flatMap_singleton]
  rfl
theorem encs_drop {l : List Int} {k : Nat} (h : k < l.length) : encs (l.drop k) = putN (u64 l[k]) 8 ++ (putN (u64 l[k]) 4 ++ encs (l.drop (k + 1))) := by
  rw [List.drop_eq_getElem_cons h, ← List.append_assoc]
  rfl
theorem leN_put (n k : Nat) : leN (putN n k) = n % 256 ^ k := by
  induction k with
  | zero => simp [putN, leN, Nat.mod_one]
  | succ k ih =>
    rw [putN_succ, leN_app, ih, putN_len]
    have e : (byteN n k).toNat = n / 256 ^ k % 256 := by
      unfold byteN
      rw [show (256 : Nat) ^ k = 2 ^ (8 * k) by rw [Nat.pow_mul]]
      simp
    simp only [leN, Nat.mul_zero, Nat.add_zero]
    rw [e, Nat.pow_succ, Nat.mod_mul]
theorem sgn8 (z : Int) (h1 : -9223372036854775808 ≤ z) (h2 : z ≤ 9223372036854775807) : sgn 8 (leN (putN (u64 z) 8)) = z := by
  rw [leN_put]
  have := u64_lt z
  unfold sgn u64 at *
  simp
  split <;> omega
theorem sgn4 (z : Int) : sgn 4 (leN (putN (u64 z) 4)) = wrap32 z := by
  rw [leN_put]
  have := u64_lt z
  unfold sgn u64 wrap32 at *
  simp
  split <;> omega
theorem L_ext (s : ByteArray) (a b : Nat) : L (s.extract a b) = ((L s).take b).drop a := by
  unfold L; rw [ByteArray.data_extract, Array.toList_extract, List.extract_eq_take_drop]
  rw [List.drop_take]
/-- a reader ahead of known bytes -/
theorem rd_next {x : ByteArray} {a r : List UInt8} {n : Int} (hx : L x = a ++ r) (ha : (a.length : Int) = n) (h1 : 1 ≤ n) (h8 : n ≤ 8) :
    tkO x false (getW n) = true ∧ L (tkS x false (getW n)) = r ∧ sgnV x false n = sgn n (leN a) := by
  obtain ⟨N, rfl⟩ : ∃ N : Nat, n = (N : Int) := ⟨n.toNat, by omega⟩
  have ha : a.length = N := by omega
  have hg : getW (N : Int) = N := by unfold getW; rw [if_pos ⟨by omega, by omega⟩]
  have hl : x.size = N + r.length := by rw [← L_len, hx, List.length_append, ha]
  obtain ⟨t1, t2, t3⟩ := tk_yes (s := x) (n := (N : Int)) (by omega) (by omega)
  refine ⟨by rw [hg, t1], ?_, ?_⟩
  · rw [hg, t3, L_ext, Int.toNat_natCast, List.take_of_length_le (by rw [L_len]; exact Nat.le_refl _), hx, ← ha]; simp
  · unfold sgnV getV
    rw [if_pos ⟨by omega, by omega⟩, hg, t2]
    have e : (x.extract 0 ((N : Int)).toNat).data.toList = a := by
      show L _ = a
      rw [L_ext, Int.toNat_natCast, hx, ← ha]; simp
    rw [e]
theorem putL8 (n : Nat) : putL 8 n = putN n 8 := by unfold putL; rw [if_pos (by decide)]; rfl
theorem putL4 (n : Nat) : putL 4 n = putN n 4 := by unfold putL; rw [if_pos (by decide)]; rfl
set_option maxRecDepth 20000 in
set_option maxHeartbeats 6400000 in
theorem back_any (A : Option Addr) (n c : Nat) (s : ByteArray) (l : List Int) (w : World) (hr : Reads w w.heap.size 1 A n (l.map (Value.int .i64))) (hN : ∀ z ∈ l, -9223372036854775808 ≤ z ∧ z ≤ 9223372036854775807) (hn : n ≤ 9223372036854775807) (hs : s.size ≤ 9223372036854775807) :
    Calls Try.prog 4 #[.slice A n c, .string s] w fun e w' => e = .returned (.bool true) ∧ Below w.heap.size w w' := by
  by_cases h1 : 100 < n
  · have h1' : (100 : Int) < (n : Int) := by omega
    go_enter Try.func4, Try.ntmps4
    go_wp2_with (go_at_call 9; refine (lives_any _).mono ?_; rintro e w1 ⟨rfl, hb1⟩)
    go_ret
    exact ⟨rfl, hb1⟩
  · have h1' : ¬ (100 : Int) < (n : Int) := by omega
    by_cases h2 : 3000 < s.size
    · have h2' : (3000 : Int) < (s.size : Int) := by omega
      go_enter Try.func4, Try.ntmps4
      go_wp2_with (go_at_call 9; refine (lives_any _).mono ?_; rintro e w1 ⟨rfl, hb1⟩)
      go_ret
      exact ⟨rfl, hb1⟩
    · have h2' : ¬ (3000 : Int) < (s.size : Int) := by omega
      have hll : l.length = n := by have := hr.1; simpa using this
      go_enter Try.func4, Try.ntmps4
      go_wp2_with (go_at_call 9; refine (lives_any _).mono ?_; rintro e w1 ⟨rfl, hb1⟩)
      have hsz1 := hb1.size
      have hw1 := Wr.new w1
      have hb2 := hb1.alloc hsz1 (.cells #[.pointer none, .slice none 0 0] 27)
      go_loopw [7, 27] (fun _ i w' => ∃ (k : Nat), i = .int .i64 k ∧ k ≤ n ∧ Wr w' w1.heap.size (encs (l.take k)) ∧ Below w.heap.size w w') (fun _ i _ => n - (intOf i).toNat)
      case atStart => exact ⟨0, rfl, Nat.zero_le _, by simpa [encs] using hw1, hb2⟩
      case round =>
        obtain ⟨k, rfl, hk, hw, hbw⟩ := hrel
        by_cases hlt : k < n
        · have hlt' : (k : Int) < (n : Int) := by omega
          obtain ⟨ad, u, rfl, had, hu, hcell⟩ := (hr.below hbw).at_ hlt
          have hkl : k < l.length := by omega
          have hxl : (encs (l.take k)).length ≤ 1200 := by rw [encs_len, List.length_take]; omega
          have hT := Lib.hid (encs_take hkl)
          simp [hkl] at hu
          subst hu
          have hwz := u64_wrap l[k]
          have hlz := u64_lt l[k]
          generalize l[k] = z at *
          go_wp2_with fail
          refine (put_at hw hlz (by omega) (cs := encs (l.take k) ++ putN (u64 z) 8) (by rw [putL8])).mono ?_; rintro e w2 ⟨rfl, hb2, hw2⟩
          go_wp2_with fail
          refine (put_at hw2 hlz (by rw [List.length_append, putN_len]; omega) (cs := encs (l.take (k + 1))) (by rw [putL4, hT.out])).mono ?_; rintro e w3 ⟨rfl, hb3, hw3⟩
          go_wp2
          go_roundw
          case rel => exact ⟨k + 1, by go_num, by omega, hw3, (hbw.trans (hb2.mono hsz1)).trans (hb3.mono hsz1)⟩
          case measure => simp [intOf]; omega
        · obtain rfl : k = n := by omega
          have hlt' : ¬ (k : Int) < (k : Int) := by omega
          rw [← hll, List.take_length] at hw
          have hbsz := hbw.size
          go_wp2_with fail
          refine (out_any _ _ _ hw).mono ?_; rintro e w2 ⟨rfl, rfl⟩
          generalize hx0 : (⟨(encs l).toArray⟩ : ByteArray) = x0
          have hx1 : L x0 = encs l := by rw [← hx0]
          have hx2 : (x0.size : Int) = 12 * (k : Int) := by rw [← L_len, hx1, encs_len, hll]; omega
          clear hx0
          go_wp2_with fail
          refine (open_any _ _).mono ?_; rintro e w2 ⟨rfl, hw2⟩
          have hrd : Rd w2 wr.heap.size x0 false := by rw [hw2]; exact Blk.new _ _ _
          have hb3 : Below w.heap.size w w2 := by rw [hw2]; exact hbw.alloc hbsz _
          clear hw2
          have hg0 : w.heap.size ≤ wr.heap.size := hbsz
          generalize wr.heap.size = g0 at *
          go_wp2_with fail
          refine (left_any _ _ _ _ hrd).mono ?_; rintro e w3 ⟨rfl, rfl⟩
          have HX := Lib.hid hx1; clear hx1
          have hxb : x0.size ≤ 1200 := by omega
          go_wp2_with fail
          go_loopw [10, 52] (fun _ i w' => ∃ (q : Nat) (x : ByteArray), i = .int .i64 q ∧ q ≤ k ∧ Rd w' g0 x false ∧ L x = encs (l.drop q) ∧ Below w.heap.size w w') (fun _ i _ => k - (intOf i).toNat)
          case atStart => exact ⟨0, x0, rfl, Nat.zero_le _, hrd, HX.out, hb3⟩
          case round =>
            obtain ⟨q, x, rfl, hq, hrx, hx, hbq⟩ := hrel
            by_cases hlt : q < k
            · have hlt2 : (q : Int) < (k : Int) := by omega
              obtain ⟨ad, u, rfl, had, hu, hcell⟩ := (hr.below hbq).at_ hlt
              have hkl : q < l.length := by omega
              simp [hkl] at hu
              subst hu
              rw [encs_drop hkl] at hx
              have hzb := hN _ (List.getElem_mem hkl)
              have hxs : x.size ≤ 9223372036854775807 := by
                rw [← L_len, hx, List.length_append, List.length_append, putN_len, putN_len, encs_len, List.length_drop]; omega
              generalize l[q] = z at *
              obtain ⟨t1, t2, t3⟩ := rd_next (n := 8) hx (by rw [putN_len]; rfl) (by omega) (by omega)
              rw [sgn8 z hzb.1 hzb.2] at t3
              obtain ⟨u1, u2, u3⟩ := rd_next (n := 4) t2 (by rw [putN_len]; rfl) (by omega) (by omega)
              rw [sgn4] at u3
              have hxs2 : (tkS x false (getW 8)).size ≤ 9223372036854775807 := by
                rw [← L_len, t2, List.length_append, putN_len, encs_len, List.length_drop]; omega
              have HU2 := Lib.hid u2
              clear hx hr hN
              go_wp2_with fail
              refine (signed_at hrx hxs t3 rfl (b' := false) (by rw [t1]; rfl)).mono ?_; rintro e w4 ⟨rfl, hr4, hg4⟩
              go_wp2_with fail
              refine (signed_at hr4 hxs2 u3 rfl (b' := false) (by rw [u1]; rfl)).mono ?_; rintro e w5 ⟨rfl, hr5, hg5⟩
              have hww : wrap64 (wrap32 z) = wrap32 z := by unfold wrap64 wrap32; omega
              have B4 := rd_step hbq hg4 hg0
              have B5 := rd_step B4 hg5 hg0
              clear hg4 hg5 t1 t2 t3 u1 u3 hr4 hww hcell
              have hww : (wrap32 z != wrap64 (wrap32 z)) = false := by
                have : wrap64 (wrap32 z) = wrap32 z := by unfold wrap64 wrap32; omega
                rw [this]; simp
              go_wp2_with fail
              go_roundw
              case rel => exact ⟨q + 1, _, by go_num, by omega, hr5, HU2.out, B5⟩
              case measure => simp [intOf]; omega
            · obtain rfl : q = k := by omega
              have hlt2 : ¬ (q : Int) < (q : Int) := by omega
              rw [← hll, List.drop_length] at hx
              have hxe : x = ⟨#[]⟩ := empty_iff x (by rw [← L_len, hx]; rfl)
              subst hxe
              have hs1 : s.size ≤ 1000000 := by omega
              have hsq := hbq.size
              clear hr hN
              go_wp2_with fail
              refine (hex_any s _ hs1).mono ?_; rintro e w4 ⟨rfl, hb4⟩
              have hun := unh_of (L s)
              have hhl : ByteArray.size ⟨(hexL (L s)).toArray⟩ ≤ 4000000 := by rw [← L_len]; show (hexL (L s)).length ≤ _; rw [hex_len, L_len]; omega
              go_wp2_with fail
              refine (unhex_at hhl (v := L s) (e0 := 0) (un_yes hun).1 (un_yes hun).2).mono ?_; rintro e w5 ⟨rfl, hb5⟩
              have B4 := hbq.trans (hb4.mono hsq)
              have B5 := B4.trans (hb5.mono B4.size)
              have hr5 := (hrx.below hb4 hrx.lt).below hb5 (hrx.below hb4 hrx.lt).lt
              clear hb4 hb5 hrx hun
              go_wp2_with fail
              refine (bad_any _ _ _ _ hr5).mono ?_; rintro e w6 ⟨rfl, rfl⟩
              go_wp2_with fail
              refine (left_any _ _ _ _ hr5).mono ?_; rintro e w6 ⟨rfl, rfl⟩
              have hse : (L s == s.toList) = true := by rw [beq_iff_eq, Lib.toList_data]
              have hs4 : s.size ≤ 4000000 := by omega
              go_wp2_with fail
              refine (unhex_any s _ hs4).mono ?_; rintro e w7 ⟨rfl, hb7⟩
              have B7 := B5.trans (hb7.mono B5.size)
              cases hu : unh (L s) with
              | none =>
                rw [(un_no hu).1, (un_no hu).2]
                go_wp2_with fail
                go_ret
                exact ⟨rfl, B7⟩
              | some o =>
                have ho := congrArg List.length (unh_hex hu)
                rw [List.length_map, L_len, hex_len] at ho
                have ho1 : ByteArray.size ⟨o.toArray⟩ ≤ 1000000 := by rw [← L_len]; show o.length ≤ _; omega
                rw [(un_yes hu).1, (un_yes hu).2]
                go_wp2_with fail
                refine (hex_any _ _ ho1).mono ?_; rintro e w8 ⟨rfl, hb8⟩
                have B8 := B7.trans (hb8.mono B7.size)
                have hol : ByteArray.size ⟨(hexL (L ⟨o.toArray⟩)).toArray⟩ = s.size := by rw [← L_len]; show (hexL o).length = _; rw [hex_len]; exact ho
                go_wp2_with fail
                go_ret
                exact ⟨rfl, B8⟩
end Go.Proofs.Ytknnadihmodnfaa.Lit
