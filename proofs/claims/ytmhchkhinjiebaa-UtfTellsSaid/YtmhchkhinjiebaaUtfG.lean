/-
  THE FUNCTIONS OF utf, AND THE REFERENCE's, WALKED (6): what is plain.
-/
import Derived.Test.YtmhchkhinjiebaaUtfE
namespace Go.Proofs.Ytmhchkhinjiebaa.Utf
open Go.ChangeShapes Go.WideShapes Go.ChangeAt Go.RowKit
open Go.Proofs.Ytmhchkhinjiebaa.Wd
set_option linter.unusedVariables false
def okc (c : Nat) : Bool := !(decide (c < 32) || c == 127)
def plain (l : List UInt8) : Bool := (B l).isNone && (R l).all okc
theorem okc_no {c : Nat} (h : c < 32 ∨ c = 127) : okc c = false := by
  unfold okc; rcases h with h | h <;> simp [h]
theorem okc_yes {c : Nat} (h : ¬ c < 32) (h' : ¬ c = 127) : okc c = true := by
  unfold okc; simp [h']; omega
theorem plain_bad {l : List UInt8} {k : Nat} (h : B l = some k) : plain l = false := by unfold plain; rw [h]; rfl
theorem plain_all {l : List UInt8} (h : B l = none) (ha : (R l).all okc = true) : plain l = true := by unfold plain; rw [h, ha]; rfl
theorem plain_one {l : List UInt8} {c : Nat} (hm : c ∈ R l) (hc : okc c = false) : plain l = false := by
  unfold plain
  have : (R l).all okc = false := by rw [List.all_eq_false]; exact ⟨c, hm, by simp [hc]⟩
  rw [this]; simp
theorem all_snoc {l : List Nat} {c : Nat} (h : l.all okc = true) (hc : okc c = true) : (l ++ [c]).all okc = true := by simp [List.all_append, h, hc]
theorem mem_of_snoc {l xs : List Nat} {n c : Nat} (h : l.take (n + 1) = xs ++ [c]) : c ∈ l := by
  have : c ∈ l.take (n + 1) := by rw [h]; simp
  exact List.mem_of_mem_take this
set_option maxHeartbeats 3200000 in
theorem plain_any (s : ByteArray) (w : World) (hs : s.size ≤ 8192) :
    Calls Try.prog 13 #[.string s] w fun e w' => e = .returned (.bool (plain (L s))) ∧ Below w.heap.size w w' := by
  cases hB : B (L s) with
  | some k =>
    have H := Lib.hid (plain_bad hB)
    have hE : chkE (L s) = 11 := (res_bad hB).2
    clear hB
    go_enter Try.func13, Try.ntmps13
    go_wp2_with (go_at_call 8; refine (check_any _ _ (by unfold maxLen; omega)).mono ?_; rintro e w1 ⟨rfl, hb1⟩; rw [hE])
    go_ret
    exact ⟨by rw [H.out]; rfl, hb1⟩
  | none =>
    have hok := Lib.hid hB
    have hE : chkE (L s) = 0 := (res_ok hB).2
    clear hB
    go_enter Try.func13, Try.ntmps13
    go_wp2_with (go_at_call 8; refine (check_any _ _ (by unfold maxLen; omega)).mono ?_; rintro e w1 ⟨rfl, hb1⟩; rw [hE])
    clear hE
    have hbit : ∀ pos, Below w.heap.size w (w1.iter s pos) := fun pos => hb1.alloc hb1.size _
    have HBI := Lib.hid hbit; clear hbit
    go_loopw [6] (fun _ w' => ∃ pos n : Nat, w' = w1.iter s pos ∧ pos ≤ s.size ∧ Rto (L s) pos n ∧ ((R (L s)).take n).all okc = true) (fun _ w' => s.size - w'.iterPos w1.heap.size)
    case atStart => exact ⟨0, 0, rfl, Nat.zero_le _, Rto_0 _, rfl⟩
    case round =>
      obtain ⟨pos, n, rfl, hpos, hR, hall⟩ := hrel
      have HR := Lib.hid hR; clear hR
      have HA := Lib.hid hall; clear hall
      by_cases hp : pos < s.size
      · have hne := L_drop_ne s pos hp
        have hlen := dec_le_len _ hne
        have hwd := dec_pos ((L s).drop pos)
        rw [List.length_drop, L_len] at hlen
        have hle : ((dec ((L s).drop pos)).1 : Int) ≤ 2147483647 := by have := decode_le s pos; rw [dec_at] at this; omega
        have hd : dec ((L s).drop pos) ≠ (65533, 1) := fun hd => by
          have := Rto_bad HR.out hne hd
          rw [hok.out] at this; cases this
        have HS := Lib.hid (Rto_step HR.out hne hd)
        have hnx : ∀ ty, (Instr.next (.pointer (some ⟨w1.heap.size, 0, none⟩)) true ty).run Try.prog (w1.iter s pos) = _ := fun ty => run_next_any w1 s pos ty hp
        rw [dec_at] at hnx
        generalize hdn : (dec ((L s).drop pos)).2 = m at *
        generalize hdc : (dec ((L s).drop pos)).1 = c at *
        clear hd hne hdn hdc
        by_cases h1 : c < 32
        · have H := Lib.hid (plain_one (mem_of_snoc HS.out.2) (okc_no (.inl h1)))
          have h1' : (c : Int) < 32 := by omega
          go_wp2_with fail
          go_ret
          exact ⟨by rw [H.out]; rfl, HBI.out _⟩
        · have h1' : ¬ (c : Int) < 32 := by omega
          by_cases h2 : c = 127
          · have H := Lib.hid (plain_one (mem_of_snoc HS.out.2) (okc_no (.inr h2)))
            have h2' : ((c : Int) == 127) = true := by simp; omega
            clear h2
            go_wp2_with fail
            go_ret
            exact ⟨by rw [H.out]; rfl, HBI.out _⟩
          · have H := Lib.hid (okc_yes h1 h2)
            have h2' : ((c : Int) == 127) = false := by simp; omega
            clear h2
            go_wp2_with fail
            go_roundw
            case rel => exact ⟨pos + m, n + 1, rfl, by omega, HS.out.1, by rw [HS.out.2]; exact all_snoc HA.out H.out⟩
            case measure => simp; omega
      · have hnx : ∀ ty, (Instr.next (.pointer (some ⟨w1.heap.size, 0, none⟩)) true ty).run Try.prog (w1.iter s pos) = _ := fun ty => run_next_end w1 s pos ty hp
        have HT := Lib.hid (Rto_end HR.out (L_drop_nil s pos (by omega)))
        have HP := Lib.hid (plain_all (l := L s) hok.out (by have := HA.out; rw [HT.out.1] at this; exact this))
        go_wp2_with fail
        go_ret
        exact ⟨by rw [HP.out]; rfl, HBI.out _⟩
theorem iv_at {w : World} {Bd : Nat} {A : Option Addr} {n k : Nat} {xs : List Nat} (h : Reads w Bd 1 A n (iv xs)) (hk : k < n) :
    ∃ ad c, A = some ad ∧ xs[k]? = some c ∧ w.cell? (ad.add k) = some (.int .i64 (c : Int)) := by
  obtain ⟨ad, u, e, _, hx, hc⟩ := h.at_ hk
  simp only [iv, List.getElem?_map] at hx
  cases hg : xs[k]? with
  | none => rw [hg] at hx; cases hx
  | some z => rw [hg] at hx; simp at hx; exact ⟨ad, z, e, rfl, by rw [hc, ← hx]⟩
theorem own_slice {w : World} {base : Nat} {e : TypeId} {size : Nat} {v : Value} {n : Nat} {xs : List Value} (h : w.ownsRow base e size v n xs) : ∃ A cap, v = .slice A n cap := by
  rcases h.2 with ⟨rfl, rfl⟩ | ⟨g, cap, cur, h1, _⟩
  · exact ⟨none, 0, rfl⟩
  · exact ⟨_, cap, h1⟩
set_option maxHeartbeats 3200000 in
theorem rplain_any (s : ByteArray) (w : World) (hs : s.size ≤ 8192) :
    Calls Try.prog 14 #[.string s] w fun e w' => e = .returned (.bool (plain (L s))) ∧ Below w.heap.size w w' := by
  cases hB : B (L s) with
  | some k =>
    have H := Lib.hid (plain_bad hB)
    have hE : chkE (L s) = 11 := (res_bad hB).2
    have hr : res (L s) = [] := (res_bad hB).1
    clear hB
    go_enter Try.func14, Try.ntmps14
    go_wp2_with fail
    refine (rchars_any _ _ hs).mono ?_
    rintro e w1 ⟨v, rfl, hown, hb1⟩
    rw [hr] at hown
    obtain ⟨A, cap, rfl⟩ := own_slice hown
    rw [hE]
    clear hown hE hr
    go_wp2_with fail
    refine wp_loop_rounds 1 ?_
    rw [rounds_succ]
    go_wp2_with fail
    go_ret
    exact ⟨by rw [H.out]; rfl, hb1⟩
  | none =>
    have hok := Lib.hid hB
    have hE : chkE (L s) = 0 := (res_ok hB).2
    have hr := (res_ok hB).1
    clear hB
    have hRl := R_length (L s)
    rw [L_len] at hRl
    go_enter Try.func14, Try.ntmps14
    go_wp2_with fail
    refine (rchars_any _ _ hs).mono ?_
    rintro e w1 ⟨v, rfl, hown, hb1⟩
    rw [hr, iv_eq, List.length_map] at hown
    obtain ⟨A, cap, rfl⟩ := own_slice hown
    have hrd := Reads.of_own hown
    rw [hE]
    clear hown hE hr
    have HRD := Lib.hid hrd; clear hrd
    generalize hN : (R (L s)).length = N at *
    have HN := Lib.hid hN; clear hN
    go_wp2_with fail
    go_loop [6, 14] (fun _ i => ∃ k : Nat, i = .int .i64 k ∧ k ≤ N ∧ ((R (L s)).take k).all okc = true) (fun _ i => N - (intOf i).toNat)
    case atStart => exact ⟨0, rfl, Nat.zero_le _, rfl⟩
    case round =>
      obtain ⟨k, rfl, hk, hall⟩ := hrel
      have HA := Lib.hid hall; clear hall
      by_cases hlt : k < N
      · obtain ⟨ad, c, rfl, hx, hc⟩ := iv_at HRD.out hlt
        have hm : c ∈ R (L s) := List.mem_of_getElem? hx
        have HT : (R (L s)).take (k + 1) = (R (L s)).take k ++ [c] := by
          rw [List.take_add_one, hx]; rfl
        have HT' := Lib.hid HT; clear HT
        have hi0 : (0 : Int) ≤ (k : Int) := by omega
        have hi1 : (k : Int) < (N : Int) := by omega
        by_cases h1 : c < 32
        · have H := Lib.hid (plain_one hm (okc_no (.inl h1)))
          have h1' : (c : Int) < 32 := by omega
          clear hx hm
          go_wp2_with fail
          go_ret
          exact ⟨by rw [H.out]; rfl, hb1⟩
        · have h1' : ¬ (c : Int) < 32 := by omega
          by_cases h2 : c = 127
          · have H := Lib.hid (plain_one hm (okc_no (.inr h2)))
            have h2' : ((c : Int) == 127) = true := by simp; omega
            clear h2 hx hm
            go_wp2_with fail
            go_ret
            exact ⟨by rw [H.out]; rfl, hb1⟩
          · have H := Lib.hid (okc_yes h1 h2)
            have h2' : ((c : Int) == 127) = false := by simp; omega
            clear h2 hx hm
            go_wp2_with fail
            go_round
            case rel => exact ⟨k + 1, by go_num, by omega, by rw [HT'.out]; exact all_snoc HA.out H.out⟩
            case measure => simp [intOf]; omega
      · obtain rfl : k = N := by omega
        have h1 : ¬ (k : Int) < (k : Int) := by omega
        have HP := Lib.hid (plain_all (l := L s) hok.out (by have := HA.out; rw [List.take_of_length_le (by rw [HN.out]; omega)] at this; exact this))
        go_wp2_with fail
        go_ret
        exact ⟨by rw [HP.out]; rfl, hb1⟩
end Go.Proofs.Ytmhchkhinjiebaa.Utf
