/-
  THE REFERENCE's little, WALKED (2): its Hex; small letters; its Unhex.
-/
import Derived.Test.YtknnadihmodnfaaLitQ
import Derived.StillTailTactics
namespace Go.Proofs.Ytknnadihmodnfaa.Lit
open Go.ChangeShapes Go.WideShapes Go.ChangeAt Go.RowKit
open Go.Proofs.Ytknnadihmodnfaa
open Go.Proofs.Ytknnadihmodnfaa.Wd
open Go.Lib (byteCells strCells)
set_option linter.unusedVariables false
theorem tab_ext_all : ∀ n : Fin 16, ((⟨#[48, 49, 50, 51, 52, 53, 54, 55, 56, 57, 97, 98, 99, 100, 101, 102]⟩ : ByteArray).extract n.val (n.val + 1)).data.toList = [hexD n.val] := by decide
theorem tab_ext {n : Nat} (h : n < 16) : L ((⟨#[48, 49, 50, 51, 52, 53, 54, 55, 56, 57, 97, 98, 99, 100, 101, 102]⟩ : ByteArray).extract n (n + 1)) = [hexD n] := tab_ext_all ⟨n, h⟩
set_option maxRecDepth 20000 in
set_option maxHeartbeats 1600000 in
theorem rhex_any (s : ByteArray) (w : World) (hs : s.size ≤ 4000000) :
    Calls Try.prog 17 #[.string s] w fun e w' => e = .returned (.string ⟨(hexL (L s)).toArray⟩) ∧ Below w.heap.size w w' := by
  go_enter Try.func17, Try.ntmps17
  go_wp2
  go_loopw [3, 4, 5, 6] (fun v i _ _ w' => ∃ (k : Nat) (x : ByteArray), i = .int .i64 k ∧ k ≤ s.size ∧ v = .string x ∧ L x = hexL ((L s).take k) ∧ Below w.heap.size w w') (fun _ i _ _ _ => s.size - (intOf i).toNat)
  case atStart => exact ⟨0, ⟨#[]⟩, rfl, Nat.zero_le _, rfl, rfl, Below.refl _ _⟩
  case round =>
    obtain ⟨k, x, rfl, hk, rfl, hx, hbw⟩ := hrel
    have hxs : x.size ≤ 12000000 := by have := congrArg List.length hx; rw [L_len, hex_len, List.length_take, L_len] at this; omega
    have HX := Lib.hid hx; clear hx
    by_cases hlt : k < s.size
    · have hlt' : (k : Int) < (s.size : Int) := by omega
      have hb8 : (s[k]).toNat < 256 := (s[k]).toNat_lt
      have hA : 0 ≤ ((s[k]).toNat : Int) / 16 ∧ ((s[k]).toNat : Int) / 16 < 16 := by omega
      have hB : 0 ≤ ((s[k]).toNat : Int) % 16 ∧ ((s[k]).toNat : Int) % 16 < 16 := by omega
      have hA1 : IntKind.u8.wrap (((s[k]).toNat : Int) / 16 + 1) = ((s[k]).toNat : Int) / 16 + 1 := wrap_u8 (by omega) (by omega)
      have hB1 : IntKind.u8.wrap (((s[k]).toNat : Int) % 16 + 1) = ((s[k]).toNat : Int) % 16 + 1 := wrap_u8 (by omega) (by omega)
      have hA2 : ((s[k]).toNat : Int) / 16 + 1 ≤ 16 := by omega
      have hB2 : ((s[k]).toNat : Int) % 16 + 1 ≤ 16 := by omega
      have hA3 : ((s[k]).toNat : Int) / 16 ≤ ((s[k]).toNat : Int) / 16 + 1 := by omega
      have hB3 : ((s[k]).toNat : Int) % 16 ≤ ((s[k]).toNat : Int) % 16 + 1 := by omega
      have hT := Lib.hid (take_at s k hlt)
      by_cases h0 : k = 0
      · have hk0 : ¬ (0 : Int) < (k : Int) := by omega
        have H0 := Lib.hid h0; clear h0
        go_wp2
        go_quiet (fail)
        go_wp2
        go_quiet (fail)
        go_wp2
        go_roundw
        case rel => exact ⟨k + 1, _, by go_num, by omega, rfl, by
          have hx0 : (L s).take k = [] := by rw [H0.out]; rfl
          rw [L_app, L_app, tab_ext (by omega), tab_ext (by omega), HX.out, hT.out, hx0]; rfl, bdrewN hbw _⟩
        case measure => simp [intOf]; omega
      · have hk0 : (0 : Int) < (k : Int) := by omega
        have H0 := Lib.hid h0; clear h0
        go_wp2
        go_quiet (fail)
        go_wp2
        go_quiet (fail)
        go_wp2
        go_roundw
        case rel => exact ⟨k + 1, _, by go_num, by omega, rfl, by
          rw [L_app, L_app, L_app, tab_ext (by omega), tab_ext (by omega), HX.out, hT.out, hex_snoc _ _ (take_ne hlt H0.out)]; simp [L], bdrewN hbw _⟩
        case measure => simp [intOf]; omega
    · obtain rfl : k = s.size := by omega
      have hlt' : ¬ (s.size : Int) < (s.size : Int) := by omega
      have ee : (L s).take s.size = L s := List.take_of_length_le (by rw [L_len]; exact Nat.le_refl _)
      go_wp2
      go_ret
      refine ⟨?_, hbw⟩
      show Ending.returned (Value.string x) = _
      rw [← ee, ← HX.out, ← bytes_eta]
/-- a row of bytes behind '[]byte(s)': its bytes are these -/
def Bk (w : World) (g m : Nat) (xs : List UInt8) : Prop := ∃ cs, w.heap[g]? = some (.cells cs 5 (m, m + 1)) ∧ xs.length ≤ m ∧ ∀ j (h : j < xs.length), cs[j]? = some (.int .u8 ((xs[j]).toNat : Int))
theorem Bk.cell {w : World} {g m : Nat} {xs : List UInt8} (h : Bk w g m xs) {j : Nat} (hj : j < xs.length) : w.cell? ⟨g, j, none⟩ = some (.int .u8 ((xs[j]).toNat : Int)) ∧ w.frozen? ⟨g, j, none⟩ = false := by
  obtain ⟨cs, h1, h2, h3⟩ := h
  refine ⟨by simp [World.cell?, h1, h3 j hj], ?_⟩
  simp [World.frozen?, h1]; omega
theorem Bk.set_ {w : World} {g m : Nat} {xs : List UInt8} (h : Bk w g m xs) {j : Nat} (hj : j < xs.length) (b : UInt8) : Bk (w.setCell ⟨g, j, none⟩ (.int .u8 (b.toNat : Int))) g m (xs.set j b) := by
  obtain ⟨cs, h1, h2, h3⟩ := h
  refine ⟨cs.setIfInBounds j (.int .u8 (b.toNat : Int)), Joins.block_setCell h1 _, by rw [List.length_set]; exact h2, fun i hi => ?_⟩
  rw [List.length_set] at hi
  rw [Array.getElem?_setIfInBounds, List.getElem_set]
  have := h3 j hj
  have hjs : j < cs.size := (Array.getElem?_eq_some_iff.1 this).1
  by_cases e : j = i
  · subst e; simp [hjs]
  · rw [if_neg e, if_neg e]; exact h3 i hi
theorem bk_new (w : World) (s : ByteArray) (cap : Nat) (hc : s.size ≤ cap) : Bk (w.drew.alloc (.cells (bytesRow s cap) 5 ((bytesRow s cap).size, (bytesRow s cap).size + 1))) w.heap.size (bytesRow s cap).size (L s) := by
  refine ⟨bytesRow s cap, heap_alloc_new w.drew _, ?_, ?_⟩
  · rw [L_len]; simp [bytesRow]
  · intro j hj
    have hj' : j < s.data.size := by rw [L_len] at hj; exact hj
    unfold bytesRow
    rw [Array.getElem?_append_left (by simpa using hj')]
    simp [L]
    exact ⟨s.data[j], by simp, rfl⟩
def mixL (l : List UInt8) (k : Nat) : List UInt8 := (l.take k).map low1 ++ l.drop k
theorem mix_len (l : List UInt8) (k : Nat) : (mixL l k).length = l.length := by simp [mixL]; omega
theorem mix_at {l : List UInt8} {k : Nat} (h : k < l.length) : (mixL l k)[k]'(by rw [mix_len]; exact h) = l[k] := by
  have e : ((l.take k).map low1).length = k := by rw [List.length_map, List.length_take]; omega
  unfold mixL
  rw [List.getElem_append_right (by omega)]
  simp [Nat.min_eq_left (Nat.le_of_lt h)]
theorem mix_succ {l : List UInt8} {k : Nat} (h : k < l.length) : mixL l (k + 1) = (mixL l k).set k (low1 l[k]) := by
  have e : ((l.take k).map low1).length = k := by rw [List.length_map, List.length_take]; omega
  unfold mixL
  rw [List.set_append_right _ _ (by omega), e, Nat.sub_self, List.drop_eq_getElem_cons h, List.set_cons_zero, List.take_succ_eq_append_getElem h, List.map_append, List.append_assoc]
  rfl
theorem low_cap {b : UInt8} (h : 65 ≤ b.toNat ∧ b.toNat ≤ 70) : IntKind.u8.wrap ((b.toNat : Int) + 32) = ((low1 b).toNat : Int) := by
  rw [wrap_u8 (by omega) (by omega)]
  unfold low1; rw [if_pos h, UInt8.toNat_add]
  show _ = (((b.toNat + 32) % 256 : Nat) : Int)
  omega
theorem low_same {b : UInt8} (h : ¬ (65 ≤ b.toNat ∧ b.toNat ≤ 70)) : low1 b = b := by unfold low1; rw [if_neg h]
set_option maxRecDepth 20000 in
set_option maxHeartbeats 1600000 in
theorem lower_any (s : ByteArray) (w : World) (hs : s.size ≤ 4000000) :
    Calls Try.prog 41 #[.string s] w fun e w' => e = .returned (.string ⟨((L s).map low1).toArray⟩) ∧ Below w.heap.size w w' := by
  have hcv := run_bytes_of_string (P := Try.prog) w 9 25 5 s Try.underlying9 Try.underlying25 Try.underlying5
  have hcap := grownCap_ge w s.size 0 5
  have hbk := bk_new w s (grownCap w s.size 0 5) hcap
  generalize grownCap w s.size 0 5 = cap at *
  generalize hm : (bytesRow s cap).size = m at *
  generalize hW : w.drew.alloc (.cells (bytesRow s cap) 5 (m, m + 1)) = W0 at *
  have hb0 : Below w.heap.size w W0 := by rw [← hW]; exact (Below.refl _ _).drew.alloc (Nat.le_refl _) _
  clear hm hW
  go_enter Try.func41, Try.ntmps41
  go_wp2
  go_loopw [4, 5, 10] (fun _ _ i w' => ∃ k : Nat, i = .int .i64 k ∧ k ≤ s.size ∧ Bk w' w.heap.size m (mixL (L s) k) ∧ Below w.heap.size w w') (fun _ _ i _ => s.size - (intOf i).toNat)
  case atStart => exact ⟨0, rfl, Nat.zero_le _, by simpa [mixL] using hbk, hb0⟩
  case round =>
    obtain ⟨k, rfl, hk, hB, hbw⟩ := hrel
    by_cases hlt : k < s.size
    · have hlt' : (k : Int) < (s.size : Int) := by omega
      have hl : k < (L s).length := by rw [L_len]; exact hlt
      obtain ⟨c1, f1⟩ := hB.cell (j := k) (by rw [mix_len]; exact hl)
      rw [mix_at hl] at c1
      have hS := Lib.hid (mix_succ hl)
      have hB2 := Lib.hid (hB.set_ (j := k) (by rw [mix_len]; exact hl) (low1 (L s)[k]))
      generalize hbb : (L s)[k] = b at *
      have hb8 := b.toNat_lt
      by_cases hcp : 65 ≤ b.toNat ∧ b.toNat ≤ 70
      · have hlc := low_cap hcp
        obtain ⟨q1, q2⟩ := hcp
        have q1' : (65 : Int) ≤ (b.toNat : Int) := by omega
        have q2' : (b.toNat : Int) ≤ 70 := by omega
        go_wp2
        go_roundw
        case rel => exact ⟨k + 1, by go_num, by omega, by rw [hS.out]; exact hB2.out, hbw.setCell (p := ⟨w.heap.size, k, none⟩) (Nat.le_refl _) _⟩
        case measure => simp [intOf]; omega
      · have hls := low_same hcp
        have hset : mixL (L s) (k + 1) = mixL (L s) k := by
          rw [hS.out, hls, ← hbb, ← mix_at hl, List.set_getElem_self]
        have HS := Lib.hid hset
        clear hset hls hS hB2
        have hcp' : (b.toNat : Int) < 65 ∨ ((65 : Int) ≤ (b.toNat : Int) ∧ ¬ (b.toNat : Int) ≤ 70) := by omega
        clear hcp
        rcases hcp' with q | ⟨q, q'⟩
        · have q1 : ¬ (65 : Int) ≤ (b.toNat : Int) := by omega
          go_wp2
          go_roundw
          case rel => exact ⟨k + 1, by go_num, by omega, by rw [HS.out]; exact hB, hbw⟩
          case measure => simp [intOf]; omega
        · go_wp2
          go_roundw
          case rel => exact ⟨k + 1, by go_num, by omega, by rw [HS.out]; exact hB, hbw⟩
          case measure => simp [intOf]; omega
    · obtain rfl : k = s.size := by omega
      have hlt' : ¬ (s.size : Int) < (s.size : Int) := by omega
      have ee : mixL (L s) s.size = (L s).map low1 := by
        unfold mixL
        rw [List.take_of_length_le (by rw [L_len]; exact Nat.le_refl _), List.drop_eq_nil_of_le (by rw [L_len]; exact Nat.le_refl _), List.append_nil]
      rw [ee] at hB
      have hll : ((L s).map low1).length = s.size := by rw [List.length_map, L_len]
      have hcv2 := run_convert_bytes_back (P := Try.prog) wr 25 9 5 ⟨w.heap.size, 0, none⟩ cap ((L s).map low1) Try.underlying25 Try.underlying5 Try.underlying9 (fun j hj => by
        have := (hB.cell hj).1
        have e : (⟨w.heap.size, 0, none⟩ : Addr).add j = ⟨w.heap.size, j, none⟩ := by unfold Addr.add; split <;> simp_all
        rw [e]; exact this)
      rw [hll] at hcv2
      go_wp2
      go_ret
      exact ⟨rfl, hbw⟩
theorem unhR_no {l : List UInt8} (h : ¬ hexL (outR (l.map low1)) = l.map low1) : unh l = none := by rw [← unhR_eq]; unfold unhR; rw [if_neg h]
theorem unhR_yes {l : List UInt8} (h : hexL (outR (l.map low1)) = l.map low1) : unh l = some (outR (l.map low1)) := by rw [← unhR_eq]; unfold unhR; rw [if_pos h]
theorem outR_two (a b : UInt8) (r : List UInt8) : outR (a :: b :: r) = byteR a b :: outR (r.drop 1) := by
  match r with
  | [] => rfl
  | c :: r => rfl
theorem byteR_val (a b : UInt8) : UInt8.ofNat ((16 * (valR a : Int) + (valR b : Int)) % 256).toNat = byteR a b := by
  unfold byteR
  have e : ((16 * (valR a : Int) + (valR b : Int)) % 256).toNat = (16 * valR a + valR b) % 256 := by omega
  rw [e]
  apply UInt8.toNat_inj.1
  simp
/-- one byte more -/
theorem out_step {l x : List UInt8} {a b : UInt8} {j p : Nat} (hd : outR (l.drop p) = (outR l).drop j) (e : l.drop p = a :: b :: l.drop (p + 1 + 1)) :
    (outR l).take (j + 1) = (outR l).take j ++ [byteR a b] ∧ outR (l.drop (p + 3)) = (outR l).drop (j + 1) := by
  rw [e, outR_two, List.drop_drop] at hd
  have hj : j < (outR l).length := by
    apply Decidable.byContradiction; intro hc
    rw [List.drop_eq_nil_of_le (show (outR l).length ≤ j by omega)] at hd; cases hd
  rw [List.drop_eq_getElem_cons hj] at hd
  injection hd with h1 h2
  exact ⟨by rw [List.take_succ_eq_append_getElem hj, h1], h2⟩
theorem out_end {l : List UInt8} {j p : Nat} (hd : outR (l.drop p) = (outR l).drop j) (h : l.length ≤ p + 1) : (outR l).take j = outR l := by
  have e : outR (l.drop p) = [] := by
    have hl : (l.drop p).length ≤ 1 := by rw [List.length_drop]; omega
    match l.drop p, hl with
    | [], _ => rfl
    | [a], _ => rfl
  rw [e] at hd
  have := List.drop_eq_nil_iff.1 hd.symm
  exact List.take_of_length_le this
theorem valR_le (b : UInt8) : valR b ≤ 16 := by unfold valR; split <;> (try split) <;> omega
set_option maxRecDepth 20000 in
set_option maxHeartbeats 1600000 in
theorem runhex_any (s : ByteArray) (w : World) (hs : s.size ≤ 4000000) :
    Calls Try.prog 14 #[.string s] w fun e w' => e = .returned (.tuple #[.string ⟨(unV (L s)).toArray⟩, .int .i64 (unE (L s))]) ∧ Below w.heap.size w w' := by
  go_enter Try.func14, Try.ntmps14
  go_wp2_with (go_at_call 41; refine (lower_any s _ hs).mono ?_; rintro e w1 ⟨rfl, hb1⟩)
  generalize ht : (⟨((L s).map low1).toArray⟩ : ByteArray) = t at *
  have htl : L t = (L s).map low1 := by rw [← ht]
  have hts : t.size = s.size := by rw [← L_len, htl, List.length_map, L_len]
  have hts4 : t.size ≤ 4000000 := by omega
  have HT := Lib.hid htl
  clear ht htl hts
  go_loopw [5, 6] (fun v i w' => ∃ (j p : Nat) (o : ByteArray), i = .int .i64 p ∧ p = 3 * j ∧ p ≤ t.size + 2 ∧ v = .string o ∧ L o = (outR (L t)).take j ∧ outR ((L t).drop p) = (outR (L t)).drop j ∧ o.size ≤ j ∧ Below w.heap.size w w') (fun _ i _ => t.size + 3 - (intOf i).toNat)
  case atStart => exact ⟨0, 0, ⟨#[]⟩, rfl, rfl, Nat.zero_le _, rfl, by simp [L], by simp, Nat.le_refl _, hb1⟩
  case round =>
    obtain ⟨j, p, o, rfl, hpj, hp, rfl, ho, hd, hos, hbw⟩ := hrel
    have hol : o.size ≤ 4000000 := by omega
    have HP := Lib.hid hpj; clear hpj
    have HO := Lib.hid ho; have HD := Lib.hid hd; clear ho hd
    by_cases hlt : p + 1 < t.size
    · have hlt' : (p : Int) + 1 < (t.size : Int) := by omega
      have hlt0' : (p : Int) < (t.size : Int) := by omega
      have hlt0 : p < t.size := by omega
      have hw1 : IntKind.i64.wrap ((p : Int) + 1) = (p : Int) + 1 := by simp [IntKind.wrap, IntKind.bits, IntKind.signed]; omega
      have hp0 : 0 ≤ (p : Int) + 1 := by omega
      have hva := valR_le t[p]
      have hvb := valR_le t[p + 1]
      have hbv := Lib.hid (byteR_val t[p] t[p + 1])
      have hv1 : IntKind.i64.wrap (16 * (valR t[p] : Int)) = 16 * (valR t[p] : Int) := by simp [IntKind.wrap, IntKind.bits, IntKind.signed]; omega
      have hv2 : IntKind.i64.wrap (16 * (valR t[p] : Int) + (valR t[p + 1] : Int)) = 16 * (valR t[p] : Int) + (valR t[p + 1] : Int) := by simp [IntKind.wrap, IntKind.bits, IntKind.signed]; omega
      have hcv := conv_drew wr
      have hdd := drop_at t p hlt0
      rw [drop_at t (p + 1) hlt] at hdd
      have HDD := Lib.hid hdd; clear hdd
      go_wp2
      go_region_with (go_at_call 42; refine (value_any _ _).mono ?_; rintro e w' ⟨rfl, rfl⟩)
      all_goals
        rw [hbv.out]
        have hbA := (hbw.alloc hbw.size (.cells #[.int .u8 ((16 * (valR t[p] : Int) + (valR t[p + 1] : Int)) % 256)] 5)).drew
        go_wp2
        go_roundw
        case rel =>
          obtain ⟨u1, u2⟩ := out_step (x := []) HD.out HDD.out
          exact ⟨j + 1, p + 3, _, by go_num, by have := HP.out; omega, by omega, rfl, by rw [L_app, HO.out, u1], u2, by rw [ByteArray.size_append]; show _ + 1 ≤ _; omega, hbA⟩
        case measure => simp [intOf]; omega
    · have hlt' : ¬ (p : Int) + 1 < (t.size : Int) := by omega
      have hO : L o = outR (L t) := by rw [HO.out]; exact out_end HD.out (by rw [L_len]; omega)
      have HOO := Lib.hid hO; clear hO
      have hbb : Below w.heap.size w wr := hbw
      by_cases hq : hexL (L o) = t.toList
      · have hq1 := Lib.hid hq
        have hqb : (hexL (L o) == t.toList) = true := by rw [beq_iff_eq]; exact hq
        clear hq
        go_wp2_with (go_at_call 17; refine (rhex_any o _ hol).mono ?_; rintro e w2 ⟨rfl, hb2⟩)
        go_ret2
        refine ⟨?_, hbb.trans (hb2.mono hbb.size)⟩
        have e1 : hexL (outR ((L s).map low1)) = (L s).map low1 := by
          rw [← HT.out, ← HOO.out, hq1.out, Lib.toList_data]
        have e2 : L o = outR ((L s).map low1) := by rw [HOO.out, HT.out]
        have := ret_yes (unhR_yes e1)
        rw [← e2, ← bytes_eta] at this
        exact this
      · have hq1 := Lib.hid hq
        have hqb : (hexL (L o) == t.toList) = false := by rw [beq_eq_false_iff_ne]; exact hq
        clear hq
        go_wp2_with (go_at_call 17; refine (rhex_any o _ hol).mono ?_; rintro e w2 ⟨rfl, hb2⟩)
        go_ret2
        refine ⟨?_, hbb.trans (hb2.mono hbb.size)⟩
        refine ret_no (unhR_no fun e => hq1.out ?_)
        rw [HOO.out, HT.out, e, ← HT.out, Lib.toList_data]
end Go.Proofs.Ytknnadihmodnfaa.Lit
