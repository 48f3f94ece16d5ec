/-
  utf.Check, utf.Plain: walked.
-/
import Derived.Test.YtgflodjohaemiaaDoorRows
import Derived.Test.YtgflodjohaemiaaDoorUtfM
import Derived.WalkKit
import Derived.WalkLawsBesides
import Derived.ProofKit
import Derived.Outline
import Derived.Lib.Hide
import Derived.Deep.QuietTactic
import Derived.BigQuiet
import Derived.Lib.Strings
import Derived.Lib.IndexBytes
import Derived.LoopTactic
import Derived.Deep.LoopGhost
import Derived.Test.YtgflodjohaemiaaDoorWords
import Derived.Lib.OthersKept
namespace Go.Proofs.YtgflodjohaemiaaDoor.Utf
open Go.ChangeShapes Go.WideShapes Go.ChangeAt Go.RowKit
open Go.Proofs.YtgflodjohaemiaaDoor.Wd
set_option linter.unusedVariables false
theorem ret_two {a b c d : Int} (h : a = b) (h' : c = d) : Ending.returned (.tuple #[.int .i64 a, .int .i64 c]) = Ending.returned (.tuple #[.int .i64 b, .int .i64 d]) := by rw [h, h']
def L (t : ByteArray) : List UInt8 := t.data.toList
theorem L_len (t : ByteArray) : (L t).length = t.size := by unfold L; rw [Array.length_toList]; rfl
theorem bdrewN {B : Nat} {a w : World} (h : Below B a w) (n : Nat) : Below B a (w.drewN n) := ⟨h.os, h.tape, h.output, h.size, h.block⟩
theorem take_L (t : ByteArray) (n : Nat) : (t.extract 0 n).toList = (L t).take n := by
  rw [Lib.extract_toList]; simp [L]
theorem pre_L (t : ByteArray) (h : 3 ≤ t.size) : ((t.extract 0 3).toList == [239, 191, 189]) = pre (L t) := by
  rw [take_L]; rfl
theorem pre_short (t : ByteArray) (h : t.size < 3) : pre (L t) = false := by
  unfold pre
  have := L_len t
  rw [beq_eq_false_iff_ne]
  intro e
  have := congrArg List.length e
  simp at this; omega
theorem hp_any (t : ByteArray) (w : World) :
    Calls Tryd.prog 67 #[.string t, .string ⟨#[239, 191, 189]⟩] w fun e w' => e = .returned (.bool (pre (L t))) ∧ w = w' := by
  by_cases h : 3 ≤ t.size
  · have H := Lib.hid (pre_L t h)
    go_enter Tryd.func67, Tryd.ntmps67
    go_wp2
    go_ret
    exact ⟨by rw [← H.out]; rfl, rfl⟩
  · have H := Lib.hid (pre_short t (by omega))
    have h' : (t.size : Int) < 3 := by omega
    go_enter Tryd.func67, Tryd.ntmps67
    go_wp2
    go_ret
    exact ⟨by rw [H.out]; rfl, rfl⟩
theorem L_extract (s : ByteArray) (a : Nat) : L (s.extract a s.size) = (L s).drop a := by
  unfold L; exact Lib.extract_to_end s a
theorem L_drop_ne (s : ByteArray) (pos : Nat) (h : pos < s.size) : (L s).drop pos ≠ [] := by
  intro e
  have := congrArg List.length e
  rw [List.length_drop, L_len] at this
  simp at this; omega
theorem L_drop_nil (s : ByteArray) (pos : Nat) (h : s.size ≤ pos) : (L s).drop pos = [] := List.drop_eq_nil_of_le (by rw [L_len]; exact h)
theorem dec_at (s : ByteArray) (pos : Nat) : Utf8.decode s pos = dec ((L s).drop pos) := dec_utf8 s pos
set_option maxHeartbeats 1600000 in
theorem check_any (s : ByteArray) (w : World) (hs : s.size ≤ maxLen) :
    Calls Tryd.prog 56 #[.string s] w fun e w' => e = .returned (.tuple #[.int .i64 (chkI (L s)), .int .i64 (chkE (L s))]) ∧ Below w.heap.size w w' := by
  unfold maxLen at hs
  have hit : ∀ pos, Below w.heap.size w (w.iter s pos) := fun pos => (Below.refl _ _).alloc (Nat.le_refl _) _
  go_enter Tryd.func56, Tryd.ntmps56
  go_wp2
  go_loopw [4, 5] (fun _ _ w' => ∃ pos : Nat, w' = w.iter s pos ∧ pos ≤ s.size ∧ B (L s) = (B ((L s).drop pos)).map (· + pos)) (fun _ _ w' => s.size - w'.iterPos w.heap.size)
  case atStart => exact ⟨0, rfl, Nat.zero_le _, by simp⟩
  case round =>
    obtain ⟨pos, rfl, hpos, hB⟩ := hrel
    have HB := Lib.hid hB; clear hB
    by_cases hp : pos < s.size
    · have hne := L_drop_ne s pos hp
      have hlen := dec_le_len _ hne
      have hwd := dec_pos ((L s).drop pos)
      rw [List.length_drop, L_len] at hlen
      have hle : ((dec ((L s).drop pos)).1 : Int) ≤ 2147483647 := by have := decode_le s pos; rw [dec_at] at this; omega
      have hnx : ∀ ty, (Instr.next (.pointer (some ⟨w.heap.size, 0, none⟩)) true ty).run Tryd.prog (w.iter s pos) = _ := fun ty => run_next_any w s pos ty hp
      rw [dec_at] at hnx
      have hp' : (pos : Int) ≤ (s.size : Int) := by omega
      by_cases hd : dec ((L s).drop pos) = (65533, 1)
      · have hpre := pre_not _ hd
        rw [← L_extract] at hpre
        have H := Lib.hid (B_bad _ hne hd)
        rw [hd] at hnx
        simp only [] at hnx
        clear hd hwd hle hne hlen
        go_wp2_with (go_at_call 67; refine (hp_any _ _).mono ?_; rintro e w' ⟨rfl, rfl⟩; rw [hpre])
        go_ret2
        exact ⟨ret_two (by unfold chkI; rw [HB.out, H.out]; simp) (by unfold chkE; rw [HB.out, H.out]; rfl), hit _⟩
      · have H := Lib.hid (B_step _ hne hd)
        by_cases hc : (dec ((L s).drop pos)).1 = 65533
        · have hpre := pre_of _ hne hc hd
          rw [← L_extract] at hpre
          rw [hc] at hnx
          generalize hn : (dec ((L s).drop pos)).2 = n at *
          clear hc hd hne hle hn
          go_wp2_with (go_at_call 67; refine (hp_any _ _).mono ?_; rintro e w' ⟨rfl, rfl⟩; rw [hpre])
          go_roundw
          case rel => exact ⟨pos + n, rfl, by omega, by rw [HB.out, H.out, List.drop_drop]; cases B ((L s).drop (pos + n)) <;> simp; omega⟩
          case measure => simp; omega
        · have hc' : (((dec ((L s).drop pos)).1 : Int) == 65533) = false := by simp; omega
          generalize hn : (dec ((L s).drop pos)).2 = n at *
          clear hc hd hne hle hn
          go_wp2
          go_roundw
          case rel => exact ⟨pos + n, rfl, by omega, by rw [HB.out, H.out, List.drop_drop]; cases B ((L s).drop (pos + n)) <;> simp; omega⟩
          case measure => simp; omega
    · have hnx : ∀ ty, (Instr.next (.pointer (some ⟨w.heap.size, 0, none⟩)) true ty).run Tryd.prog (w.iter s pos) = _ := fun ty => run_next_end w s pos ty hp
      have H := Lib.hid (L_drop_nil s pos (by omega))
      go_wp2
      go_ret2
      exact ⟨ret_two (by unfold chkI; rw [HB.out, H.out]; rfl) (by unfold chkE; rw [HB.out, H.out]; rfl), hit _⟩
def res (l : List UInt8) : List Int := if B l = none then (R l).map (fun c : Nat => (c : Int)) else []
theorem res_bad {l : List UInt8} {k : Nat} (h : B l = some k) : res l = [] ∧ chkE l = 11 := by
  unfold res chkE; rw [h]; simp
theorem res_ok {l : List UInt8} (h : B l = none) : res l = (R l).map (fun c : Nat => (c : Int)) ∧ chkE l = 0 := by
  unfold res chkE; rw [h]; simp
/-- the first so many bytes' characters -/
def Rto (l : List UInt8) (pos : Nat) (n : Nat) : Prop := R l = (R l).take n ++ R (l.drop pos) ∧ n ≤ pos ∧ n ≤ (R l).length ∧ B l = (B (l.drop pos)).map (· + pos)
theorem Rto_0 (l : List UInt8) : Rto l 0 0 := ⟨by simp, Nat.le_refl _, Nat.zero_le _, by simp⟩
theorem Rto_step {l : List UInt8} {pos n : Nat} (h : Rto l pos n) (hne : l.drop pos ≠ []) (hd : dec (l.drop pos) ≠ (65533, 1)) :
    Rto l (pos + (dec (l.drop pos)).2) (n + 1) ∧ (R l).take (n + 1) = (R l).take n ++ [(dec (l.drop pos)).1] := by
  obtain ⟨h1, h2, h3, h4⟩ := h
  have hs := R_step _ hne hd
  have hb := B_step _ hne hd
  have hp := dec_pos (l.drop pos)
  rw [hs] at h1
  have hlt : n < (R l).length := by
    have := congrArg List.length h1
    simp [List.length_take] at this; omega
  have ht : (R l).take (n + 1) = (R l).take n ++ [(dec (l.drop pos)).1] := by
    have hl : ((R l).take n).length = n := by rw [List.length_take]; omega
    conv => lhs; rw [h1]
    rw [List.take_append, hl, List.take_of_length_le (by rw [hl]; omega)]
    simp
  refine ⟨⟨?_, by omega, by omega, ?_⟩, ht⟩
  · rw [ht, List.append_assoc, ← List.drop_drop]; exact h1
  · rw [h4, hb, List.drop_drop]
    cases B (l.drop (pos + (dec (l.drop pos)).2)) <;> simp; omega
theorem Rto_end {l : List UInt8} {pos n : Nat} (h : Rto l pos n) (he : l.drop pos = []) : (R l).take n = R l ∧ B l = none := by
  obtain ⟨h1, h2, h3, h4⟩ := h
  rw [he, R_nil, List.append_nil] at h1
  rw [he] at h4
  exact ⟨h1.symm, h4⟩
theorem Rto_bad {l : List UInt8} {pos n : Nat} (h : Rto l pos n) (hne : l.drop pos ≠ []) (hd : dec (l.drop pos) = (65533, 1)) : B l = some pos := by
  rw [h.2.2.2, B_bad _ hne hd]; simp
def okc (c : Nat) : Bool := !(decide (c < 32) || c == 127)
def plain (l : List UInt8) : Bool := (B l).isNone && (R l).all okc
theorem okc_no {c : Nat} (h : c < 32 ∨ c = 127) : okc c = false := by
  unfold okc; rcases h with h | h <;> simp [h]
theorem okc_yes {c : Nat} (h : ¬ c < 32) (h' : ¬ c = 127) : okc c = true := by
  unfold okc; simp [h']; omega
theorem plain_bad {l : List UInt8} {k : Nat} (h : B l = some k) : plain l = false := by unfold plain; rw [h]; rfl
theorem plain_all {l : List UInt8} (h : B l = none) (ha : (R l).all okc = true) : plain l = true := by unfold plain; rw [h, ha]; rfl
theorem plain_one {l : List UInt8} {c : Nat} (hm : c ∈ R l) (hc : okc c = false) : plain l = false := by
  unfold plain
  have : (R l).all okc = false := by rw [List.all_eq_false]; exact ⟨c, hm, by simp [hc]⟩
  rw [this]; simp
theorem all_snoc {l : List Nat} {c : Nat} (h : l.all okc = true) (hc : okc c = true) : (l ++ [c]).all okc = true := by simp [List.all_append, h, hc]
theorem mem_of_snoc {l xs : List Nat} {n c : Nat} (h : l.take (n + 1) = xs ++ [c]) : c ∈ l := by
  have : c ∈ l.take (n + 1) := by rw [h]; simp
  exact List.mem_of_mem_take this
set_option maxHeartbeats 3200000 in
theorem plain_any (s : ByteArray) (w : World) (hs : s.size ≤ 8192) :
    Calls Tryd.prog 47 #[.string s] w fun e w' => e = .returned (.bool (plain (L s))) ∧ Below w.heap.size w w' := by
  cases hB : B (L s) with
  | some k =>
    have H := Lib.hid (plain_bad hB)
    have hE : chkE (L s) = 11 := (res_bad hB).2
    clear hB
    go_enter Tryd.func47, Tryd.ntmps47
    go_wp2_with (go_at_call 56; refine (check_any _ _ (by unfold maxLen; omega)).mono ?_; rintro e w1 ⟨rfl, hb1⟩; rw [hE])
    go_ret
    exact ⟨by rw [H.out]; rfl, hb1⟩
  | none =>
    have hok := Lib.hid hB
    have hE : chkE (L s) = 0 := (res_ok hB).2
    clear hB
    go_enter Tryd.func47, Tryd.ntmps47
    go_wp2_with (go_at_call 56; refine (check_any _ _ (by unfold maxLen; omega)).mono ?_; rintro e w1 ⟨rfl, hb1⟩; rw [hE])
    clear hE
    have hbit : ∀ pos, Below w.heap.size w (w1.iter s pos) := fun pos => hb1.alloc hb1.size _
    have HBI := Lib.hid hbit; clear hbit
    go_loopw [6] (fun _ w' => ∃ pos n : Nat, w' = w1.iter s pos ∧ pos ≤ s.size ∧ Rto (L s) pos n ∧ ((R (L s)).take n).all okc = true) (fun _ w' => s.size - w'.iterPos w1.heap.size)
    case atStart => exact ⟨0, 0, rfl, Nat.zero_le _, Rto_0 _, rfl⟩
    case round =>
      obtain ⟨pos, n, rfl, hpos, hR, hall⟩ := hrel
      have HR := Lib.hid hR; clear hR
      have HA := Lib.hid hall; clear hall
      by_cases hp : pos < s.size
      · have hne := L_drop_ne s pos hp
        have hlen := dec_le_len _ hne
        have hwd := dec_pos ((L s).drop pos)
        rw [List.length_drop, L_len] at hlen
        have hle : ((dec ((L s).drop pos)).1 : Int) ≤ 2147483647 := by have := decode_le s pos; rw [dec_at] at this; omega
        have hd : dec ((L s).drop pos) ≠ (65533, 1) := fun hd => by
          have := Rto_bad HR.out hne hd
          rw [hok.out] at this; cases this
        have HS := Lib.hid (Rto_step HR.out hne hd)
        have hnx : ∀ ty, (Instr.next (.pointer (some ⟨w1.heap.size, 0, none⟩)) true ty).run Tryd.prog (w1.iter s pos) = _ := fun ty => run_next_any w1 s pos ty hp
        rw [dec_at] at hnx
        generalize hdn : (dec ((L s).drop pos)).2 = m at *
        generalize hdc : (dec ((L s).drop pos)).1 = c at *
        clear hd hne hdn hdc
        by_cases h1 : c < 32
        · have H := Lib.hid (plain_one (mem_of_snoc HS.out.2) (okc_no (.inl h1)))
          have h1' : (c : Int) < 32 := by omega
          go_wp2_with fail
          go_ret
          exact ⟨by rw [H.out]; rfl, HBI.out _⟩
        · have h1' : ¬ (c : Int) < 32 := by omega
          by_cases h2 : c = 127
          · have H := Lib.hid (plain_one (mem_of_snoc HS.out.2) (okc_no (.inr h2)))
            have h2' : ((c : Int) == 127) = true := by simp; omega
            clear h2
            go_wp2_with fail
            go_ret
            exact ⟨by rw [H.out]; rfl, HBI.out _⟩
          · have H := Lib.hid (okc_yes h1 h2)
            have h2' : ((c : Int) == 127) = false := by simp; omega
            clear h2
            go_wp2_with fail
            go_roundw
            case rel => exact ⟨pos + m, n + 1, rfl, by omega, HS.out.1, by rw [HS.out.2]; exact all_snoc HA.out H.out⟩
            case measure => simp; omega
      · have hnx : ∀ ty, (Instr.next (.pointer (some ⟨w1.heap.size, 0, none⟩)) true ty).run Tryd.prog (w1.iter s pos) = _ := fun ty => run_next_end w1 s pos ty hp
        have HT := Lib.hid (Rto_end HR.out (L_drop_nil s pos (by omega)))
        have HP := Lib.hid (plain_all (l := L s) hok.out (by have := HA.out; rw [HT.out.1] at this; exact this))
        go_wp2_with fail
        go_ret
        exact ⟨by rw [HP.out]; rfl, HBI.out _⟩
end Go.Proofs.YtgflodjohaemiaaDoor.Utf
