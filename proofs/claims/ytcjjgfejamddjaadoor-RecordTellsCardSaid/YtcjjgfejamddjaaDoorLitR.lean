/-
  little's READER, WALKED: what is taken of a reader's bytes, and what is left of them.
-/
import Derived.Test.YtcjjgfejamddjaaDoorLit
namespace Go.Proofs.YtcjjgfejamddjaaDoor.Lit
open Go.ChangeShapes Go.WideShapes Go.ChangeAt Go.RowKit
open Go.Proofs.YtcjjgfejamddjaaDoor
open Go.Proofs.YtcjjgfejamddjaaDoor.Wd
set_option linter.unusedVariables false
/-- a reader at g -/
abbrev Rd (w : World) (g : Nat) (s : ByteArray) (b : Bool) : Prop := Blk w g 126 #[.string s, .bool b]
/-- whether the next bytes are there; they; what is left -/
def tkO (s : ByteArray) (b : Bool) (n : Int) : Bool := !b && decide (0 ≤ n ∧ n ≤ s.size)
def tkR (s : ByteArray) (b : Bool) (n : Int) : ByteArray := if tkO s b n = true then s.extract 0 n.toNat else ⟨#[]⟩
def tkS (s : ByteArray) (b : Bool) (n : Int) : ByteArray := if tkO s b n = true then s.extract n.toNat s.size else if b = true then s else ⟨#[]⟩
theorem grown_set (w : World) (g i : Nat) (u : Value) : w.grownBy (w.setCell ⟨g, i, none⟩ u) (some g) :=
  ⟨rfl, rfl, rfl, by simp, fun k _ hk => Below.heap_setCell w _ u k (fun e => hk (by rw [e]))⟩
theorem tk_bad (s : ByteArray) (n : Int) : tkO s true n = false ∧ tkR s true n = ⟨#[]⟩ ∧ tkS s true n = s := by simp [tkO, tkR, tkS]
theorem tk_no {s : ByteArray} {n : Int} (h : n < 0 ∨ s.size < n) : tkO s false n = false ∧ tkR s false n = ⟨#[]⟩ ∧ tkS s false n = ⟨#[]⟩ := by
  have : tkO s false n = false := by unfold tkO; simp; omega
  simp [tkR, tkS, this]
theorem tk_yes {s : ByteArray} {n : Int} (h1 : 0 ≤ n) (h2 : n ≤ s.size) : tkO s false n = true ∧ tkR s false n = s.extract 0 n.toNat ∧ tkS s false n = s.extract n.toNat s.size := by
  have : tkO s false n = true := by unfold tkO; simp; omega
  simp [tkR, tkS, this]
set_option maxRecDepth 20000 in
set_option maxHeartbeats 1600000 in
theorem open_any (s : ByteArray) (w : World) :
    Calls Tryd.prog 55 #[.string s] w fun e w' => e = .returned (.pointer (some ⟨w.heap.size, 0, none⟩)) ∧ w' = w.alloc (.cells #[.string s, .bool false] 126) := by
  go_enter Tryd.func55, Tryd.ntmps55
  go_wp2
  go_ret
  exact ⟨rfl, rfl⟩
set_option maxRecDepth 20000 in
set_option maxHeartbeats 1600000 in
theorem take_any (g : Nat) (s : ByteArray) (b : Bool) (n : Int) (w : World) (h : Rd w g s b) (hs : s.size ≤ 9223372036854775807) :
    Calls Tryd.prog 82 #[.pointer (some ⟨g, 0, none⟩), .int .i64 n] w fun e w' =>
      e = .returned (.tuple #[.string (tkR s b n), .bool (tkO s b n)]) ∧ Rd w' g (tkS s b n) (!tkO s b n) ∧ w.grownBy w' (some g) := by
  have c0 := h.cell 0
  have c1 := h.cell 1
  have f0 := h.frozen 0
  have f1 := h.frozen 1
  have hgl := h.lt
  simp at c0 c1
  cases b with
  | true =>
    obtain ⟨t1, t2, t3⟩ := tk_bad s n
    rw [t1, t2, t3]
    go_enter Tryd.func82, Tryd.ntmps82
    go_wp2
    go_ret2
    exact ⟨rfl, h, World.grownBy.refl _ _⟩
  | false =>
    by_cases hn : n < 0 ∨ s.size < n
    · obtain ⟨t1, t2, t3⟩ := tk_no hn
      rw [t1, t2, t3]
      have hn' : n < 0 ∨ (0 ≤ n ∧ (s.size : Int) < n) := by omega
      clear hn
      rcases hn' with h1 | ⟨h1, h2⟩
      all_goals
        go_enter Tryd.func82, Tryd.ntmps82
        go_wp2
        go_ret2
        refine ⟨rfl, ?_, ?_⟩
        · simpa using (h.set_ 1 (.bool true)).set_ 0 (.string ⟨#[]⟩)
        · exact (grown_set _ _ _ _).trans (grown_set _ _ _ _)
    · have h1 : 0 ≤ n := by omega
      have h2 : n ≤ (s.size : Int) := by omega
      obtain ⟨k, rfl⟩ : ∃ k : Nat, n = (k : Int) := ⟨n.toNat, by omega⟩
      obtain ⟨t1, t2, t3⟩ := tk_yes h1 h2
      rw [t1, t2, t3]
      clear hn
      go_enter Tryd.func82, Tryd.ntmps82
      go_wp2
      go_ret2
      refine ⟨rfl, ?_, ?_⟩
      · simpa using h.set_ 0 (.string (s.extract k s.size))
      · exact grown_set _ _ _ _
/-- a number's bytes, the lowest first -/
def leN : List UInt8 → Nat
  | [] => 0
  | b :: t => b.toNat + 256 * leN t
theorem leN_app (a b : List UInt8) : leN (a ++ b) = leN a + 256 ^ a.length * leN b := by
  induction a with
  | nil => simp [leN]
  | cons x t ih => simp only [List.cons_append, leN, ih, List.length_cons, Nat.pow_succ, Nat.mul_add]; rw [Nat.mul_comm (256 ^ t.length) 256, ← Nat.mul_assoc, Nat.add_assoc]
theorem leN_lt (a : List UInt8) : leN a < 256 ^ a.length := by
  induction a with
  | nil => simp [leN]
  | cons x t ih =>
    have := x.toNat_lt
    simp only [leN, List.length_cons, Nat.pow_succ]; omega
theorem leN_take {l : List UInt8} {k : Nat} (h : k < l.length) : leN (l.take (k + 1)) = leN (l.take k) + 256 ^ k * (l[k]).toNat := by
  rw [List.take_succ_eq_append_getElem h, leN_app, List.length_take]
  simp [leN, Nat.min_eq_left (Nat.le_of_lt h)]
theorem le_or {l : List UInt8} {k : Nat} (h : k < l.length) (h8 : k < 8) :
    bits .or .u64 ((leN (l.take k) : Nat) : Int) (IntKind.u64.wrap (((l[k]).toNat : Int) * 2 ^ (8 * (k : Int)).toNat)) = ((leN (l.take (k + 1)) : Nat) : Int) := by
  have e : (8 * (k : Int)).toNat = 8 * k := by omega
  have hb : (l[k]).toNat < 256 := (l[k]).toNat_lt
  have hp : (256 : Nat) ^ k = 2 ^ (8 * k) := by rw [Nat.pow_mul]
  have hlt : leN (l.take k) < 2 ^ (8 * k) := by
    have := leN_lt (l.take k)
    rwa [List.length_take, Nat.min_eq_left (Nat.le_of_lt h), hp] at this
  have hm : (l[k]).toNat * 2 ^ (8 * k) < 18446744073709551616 := by
    have h1 : (l[k]).toNat * 2 ^ (8 * k) < 256 * 2 ^ (8 * k) := Nat.mul_lt_mul_of_pos_right hb (Nat.two_pow_pos _)
    have h2 : 256 * 2 ^ (8 * k) ≤ 18446744073709551616 := by
      have : 256 * 2 ^ (8 * k) = 2 ^ (8 * k + 8) := by rw [Nat.pow_add, Nat.mul_comm]
      rw [this]
      exact (Nat.pow_le_pow_right (by decide : 0 < 2) (show 8 * k + 8 ≤ 64 by omega) : 2 ^ (8 * k + 8) ≤ 2 ^ 64)
    omega
  have hw : IntKind.u64.wrap (((l[k]).toNat : Int) * 2 ^ (8 * (k : Int)).toNat) = (((l[k]).toNat * 2 ^ (8 * k) : Nat) : Int) := by
    rw [e, IntKind.wrap_u64]
    have : ((l[k]).toNat : Int) * 2 ^ (8 * k) = (((l[k]).toNat * 2 ^ (8 * k) : Nat) : Int) := by push_cast; rfl
    rw [this]; omega
  have hl64 : leN (l.take k) < 18446744073709551616 := Nat.lt_of_lt_of_le hlt (Nat.pow_le_pow_right (by decide : 0 < 2) (show 8 * k ≤ 64 by omega) : 2 ^ (8 * k) ≤ 2 ^ 64)
  rw [hw, bits_or_u64_nat _ _ hl64 hm, leN_take h, hp, Nat.or_comm, Nat.mul_comm (l[k]).toNat]
  rw [← Nat.two_pow_add_eq_or_of_lt hlt, Nat.add_comm]
theorem le_orB (x : ByteArray) {k : Nat} (h : k < x.size) (h8 : k < 8) :
    bits .or .u64 ((leN (x.data.toList.take k) : Nat) : Int) (IntKind.u64.wrap (IntKind.u64.wrap ((x[k]).toNat : Int) * 2 ^ (8 * k))) = ((leN (x.data.toList.take (k + 1)) : Nat) : Int) := by
  have hl : k < x.data.toList.length := by rw [Array.length_toList]; exact h
  have e : x[k] = x.data.toList[k] := by rw [Array.getElem_toList]; rfl
  have hb : (x[k]).toNat < 256 := (x[k]).toNat_lt
  have hw : IntKind.u64.wrap ((x[k]).toNat : Int) = ((x[k]).toNat : Int) := by rw [IntKind.wrap_u64]; omega
  rw [hw, e, ← le_or hl h8]
  congr 3
/-- what a number is read as -/
def getW (n : Int) : Int := if 1 ≤ n ∧ n ≤ 8 then n else -1
def getV (s : ByteArray) (b : Bool) (n : Int) : Nat := leN (tkR s b (getW n)).data.toList
set_option maxRecDepth 20000 in
set_option maxHeartbeats 1600000 in
theorem get_any (g : Nat) (s : ByteArray) (b : Bool) (n : Int) (w : World) (h : Rd w g s b) (hs : s.size ≤ 9223372036854775807) :
    Calls Tryd.prog 57 #[.pointer (some ⟨g, 0, none⟩), .int .i64 n] w fun e w' =>
      e = .returned (.int .u64 (getV s b n)) ∧ Rd w' g (tkS s b (getW n)) (!tkO s b (getW n)) ∧ w.grownBy w' (some g) := by
  have hn : n < 1 ∨ (1 ≤ n ∧ n ≤ 8) ∨ (1 ≤ n ∧ 8 < n) := by omega
  rcases hn with h1 | ⟨h1, h2⟩ | ⟨h1, h2⟩
  · have e0 : getW n = -1 := by unfold getW; rw [if_neg (by omega)]
    have o0 : tkO s b (-1) = false := by unfold tkO; simp
    have v0 : getV s b n = 0 := by unfold getV tkR; rw [e0, o0]; rfl
    rw [v0, e0]
    clear v0 e0
    go_enter Tryd.func57, Tryd.ntmps57
    go_wp2_with (go_at_call 82; refine (take_any g s b _ _ h hs).mono ?_; rintro e w1 ⟨rfl, hr1, hg1⟩; rw [o0])
    go_ret
    exact ⟨rfl, hr1, hg1⟩
  · have e0 : getW n = n := by unfold getW; rw [if_pos ⟨h1, h2⟩]
    cases ho : tkO s b n with
    | false =>
      have v0 : getV s b n = 0 := by unfold getV tkR; rw [e0, ho]; rfl
      rw [v0, e0]
      clear v0 e0
      go_enter Tryd.func57, Tryd.ntmps57
      go_wp2_with (go_at_call 82; refine (take_any g s b _ _ h hs).mono ?_; rintro e w1 ⟨rfl, hr1, hg1⟩; rw [ho])
      go_ret
      exact ⟨rfl, by rw [ho] at hr1; rw [ho]; exact hr1, hg1⟩
    | true =>
      have hbb : b = false ∧ 0 ≤ n ∧ n ≤ (s.size : Int) := by unfold tkO at ho; simpa using ho
      obtain ⟨rfl, q1, q2⟩ := hbb
      unfold getV
      rw [e0]
      generalize hx : tkR s false n = x
      have hxs : x.size = n.toNat := by rw [← hx, (tk_yes q1 q2).2.1, ByteArray.size_extract]; omega
      clear e0
      go_enter Tryd.func57, Tryd.ntmps57
      go_wp2_with (go_at_call 82; refine (take_any g s false _ _ h hs).mono ?_; rintro e w1 ⟨rfl, hr1, hg1⟩; rw [ho, hx])
      go_loopw [7, 8, 25] (fun v _ i w' => ∃ k : Nat, i = .int .i64 k ∧ k ≤ x.size ∧ v = .int .u64 (leN (x.data.toList.take k) : Nat) ∧ w' = w1) (fun _ _ i _ => x.size - (intOf i).toNat)
      case atStart => exact ⟨0, rfl, Nat.zero_le _, by simp [leN], rfl⟩
      case round =>
        obtain ⟨k, rfl, hk, rfl, rfl⟩ := hrel
        by_cases hlt : k < x.size
        · have hlt' : (k : Int) < (x.size : Int) := by omega
          have e2 := le_orB x hlt (by omega)
          go_wp2
          go_roundw
          case rel => exact ⟨k + 1, by go_num, by omega, rfl, trivial⟩
          case measure => simp [intOf]; omega
        · obtain rfl : k = x.size := by omega
          have hlt' : ¬ (x.size : Int) < (x.size : Int) := by omega
          have ee : x.data.toList.take n.toNat = x.data.toList := List.take_of_length_le (by rw [Array.length_toList, ← hxs]; exact Nat.le_refl _)
          go_wp2
          go_ret
          exact ⟨rfl, by rw [ho] at hr1; exact hr1, hg1⟩
  · have e0 : getW n = -1 := by unfold getW; rw [if_neg (by omega)]
    have o0 : tkO s b (-1) = false := by unfold tkO; simp
    have v0 : getV s b n = 0 := by unfold getV tkR; rw [e0, o0]; rfl
    rw [v0, e0]
    clear v0 e0
    go_enter Tryd.func57, Tryd.ntmps57
    go_wp2_with (go_at_call 82; refine (take_any g s b _ _ h hs).mono ?_; rintro e w1 ⟨rfl, hr1, hg1⟩; rw [o0])
    go_ret
    exact ⟨rfl, hr1, hg1⟩
/-- a number of so many bytes that may be below 0 -/
def sgn (N : Int) (v : Nat) : Int := if v < 2 ^ (8 * N.toNat - 1) then (v : Int) else (v : Int) - 2 ^ (8 * N.toNat)
theorem getV_lt (s : ByteArray) (b : Bool) (n : Int) (h1 : 1 ≤ n) (h2 : n ≤ 8) : getV s b n < 2 ^ (8 * n.toNat) := by
  unfold getV
  have h := leN_lt (tkR s b (getW n)).data.toList
  have hg : getW n = n := by unfold getW; rw [if_pos ⟨h1, h2⟩]
  rw [hg] at h ⊢
  have hl : (tkR s b n).data.toList.length ≤ n.toNat := by
    rw [Array.length_toList]
    show (tkR s b n).size ≤ _
    unfold tkR
    split
    · rw [ByteArray.size_extract]; omega
    · exact Nat.zero_le _
  rw [Nat.pow_mul]
  exact Nat.lt_of_lt_of_le h (Nat.pow_le_pow_right (by decide) hl)
theorem sgn_eq (n : Int) (v : Nat) (h1 : 1 ≤ n) (h2 : n ≤ 8) (hv : v < 2 ^ (8 * n.toNat)) :
    wrap64 (IntKind.u64.wrap ((v : Int) * 2 ^ (64 - 8 * n).toNat)) / 2 ^ (64 - 8 * n).toNat = sgn n v := by
  have hn : n = 1 ∨ n = 2 ∨ n = 3 ∨ n = 4 ∨ n = 5 ∨ n = 6 ∨ n = 7 ∨ n = 8 := by omega
  unfold sgn wrap64
  rw [IntKind.wrap_u64]
  rcases hn with rfl | rfl | rfl | rfl | rfl | rfl | rfl | rfl <;> simp at hv ⊢ <;> split <;> omega
def sgnV (s : ByteArray) (b : Bool) (n : Int) : Int := if 1 ≤ n ∧ n ≤ 8 then sgn n (getV s b n) else 0
set_option maxRecDepth 20000 in
set_option maxHeartbeats 1600000 in
theorem signed_any (g : Nat) (s : ByteArray) (b : Bool) (n : Int) (w : World) (h : Rd w g s b) (hs : s.size ≤ 9223372036854775807) :
    Calls Tryd.prog 61 #[.pointer (some ⟨g, 0, none⟩), .int .i64 n] w fun e w' =>
      e = .returned (.int .i64 (sgnV s b n)) ∧ Rd w' g (tkS s b (getW n)) (!tkO s b (getW n)) ∧ w.grownBy w' (some g) := by
  have hn : n < 1 ∨ (1 ≤ n ∧ n ≤ 8) ∨ (1 ≤ n ∧ 8 < n) := by omega
  rcases hn with h1 | ⟨h1, h2⟩ | ⟨h1, h2⟩
  · have e0 : sgnV s b n = 0 := by unfold sgnV; rw [if_neg (by omega)]
    rw [e0]
    go_enter Tryd.func61, Tryd.ntmps61
    go_wp2_with (go_at_call 57; refine (get_any g s b _ _ h hs).mono ?_; rintro e w1 ⟨rfl, hr1, hg1⟩)
    go_ret
    exact ⟨rfl, hr1, hg1⟩
  · have e0 : sgnV s b n = sgn n (getV s b n) := by unfold sgnV; rw [if_pos ⟨h1, h2⟩]
    rw [e0]
    generalize hv : getV s b n = v
    go_enter Tryd.func61, Tryd.ntmps61
    go_wp2_with (go_at_call 57; refine (get_any g s b _ _ h hs).mono ?_; rintro e w1 ⟨rfl, hr1, hg1⟩; rw [hv])
    go_ret
    refine ⟨?_, hr1, hg1⟩
    show Ending.returned (Value.int IntKind.i64 (wrap64 (IntKind.u64.wrap ((v : Int) * 2 ^ (64 - 8 * n).toNat)) / 2 ^ (64 - 8 * n).toNat)) = _
    rw [sgn_eq n v h1 h2 (hv ▸ getV_lt s b n h1 h2)]
  · have e0 : sgnV s b n = 0 := by unfold sgnV; rw [if_neg (by omega)]
    rw [e0]
    go_enter Tryd.func61, Tryd.ntmps61
    go_wp2_with (go_at_call 57; refine (get_any g s b _ _ h hs).mono ?_; rintro e w1 ⟨rfl, hr1, hg1⟩)
    go_ret
    exact ⟨rfl, hr1, hg1⟩
set_option maxRecDepth 20000 in
set_option maxHeartbeats 1600000 in
theorem rraw_any (g : Nat) (s : ByteArray) (b : Bool) (n : Int) (w : World) (h : Rd w g s b) (hs : s.size ≤ 9223372036854775807) :
    Calls Tryd.prog 62 #[.pointer (some ⟨g, 0, none⟩), .int .i64 n] w fun e w' =>
      e = .returned (.string (tkR s b n)) ∧ Rd w' g (tkS s b n) (!tkO s b n) ∧ w.grownBy w' (some g) := by
  go_enter Tryd.func62, Tryd.ntmps62
  go_wp2_with (go_at_call 82; refine (take_any g s b _ _ h hs).mono ?_; rintro e w1 ⟨rfl, hr1, hg1⟩)
  go_ret
  exact ⟨rfl, hr1, hg1⟩
end Go.Proofs.YtcjjgfejamddjaaDoor.Lit
