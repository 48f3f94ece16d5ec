/-
  THE FUNCTIONS OF utf, AND THE REFERENCE's, WALKED (5): the reference's characters; which lists are one; what is plain.
-/
import Derived.Test.YtmhchkhinjiebaaUtfD
namespace Go.Proofs.Ytmhchkhinjiebaa.Utf
open Go.ChangeShapes Go.WideShapes Go.ChangeAt Go.RowKit
open Go.Proofs.Ytmhchkhinjiebaa.Wd
set_option linter.unusedVariables false
theorem own_below {w w' : World} {base : Nat} {e : TypeId} {size : Nat} {v : Value} {n : Nat} {xs : List Value} (h : w.ownsRow base e size v n xs) (hb : Below w.heap.size w w') : w'.ownsRow base e size v n xs := by
  refine ⟨h.1, ?_⟩
  rcases h.2 with h' | ⟨g, cap, cur, h1, h2, h3, h4⟩
  · exact .inl h'
  · exact .inr ⟨g, cap, cur, h1, h2, by rw [hb.block g (Array.getElem?_eq_some_iff.1 h3).1]; exact h3, h4⟩
theorem ne_str (t : ByteArray) : (!t.toList == []) = !(L t).isEmpty := by
  rw [Lib.toList_data]
  show (!(L t) == []) = _
  cases L t <;> rfl
set_option maxHeartbeats 3200000 in
theorem rchars_any (s : ByteArray) (w : World) (hs : s.size ≤ 8192) :
    Calls Try.prog 11 #[.string s] w (CharsPost (L s) w) := by
  obtain ⟨i0, hi, hz0, hz1, hz2⟩ := info_parts int_info
  have hls := L_len s
  go_enter Try.func11, Try.ntmps11
  go_wp2_with fail
  go_loopw [0, 4, 5, 6] (fun t v _ _ w' => ∃ (x : ByteArray) (pos n : Nat), t = .string x ∧ L x = (L s).drop pos ∧ pos ≤ s.size ∧ Rto (L s) pos n ∧ w'.ownsRow w.heap.size 3 1 v n (iv ((R (L s)).take n)) ∧ Below w.heap.size w w') (fun t _ _ _ _ => match t with | .string x => x.size | _ => 0)
  case atStart => exact ⟨s, 0, 0, rfl, by simp, Nat.zero_le _, Rto_0 _, by simpa using World.ownsRow_nil _ _ _ _, Below.refl _ _⟩
  case round =>
    obtain ⟨x, pos, n, rfl, hx, hpos, hR, hown, hbw⟩ := hrel
    have HR := Lib.hid hR; clear hR
    have HX := Lib.hid hx
    have hxl := L_len x
    rw [hx, List.length_drop, hls] at hxl
    have hxl' : pos + x.size = s.size := by omega
    have HXL := Lib.hid hxl'
    have hbsz := hbw.size
    by_cases hp : 0 < x.size
    · have hne : (L s).drop pos ≠ [] := by rw [← hx]; intro e; have := L_len x; rw [e] at this; simp at this; omega
      have hlen := dec_le_len _ hne
      have hwd := dec_pos ((L s).drop pos)
      rw [List.length_drop, hls] at hlen
      have hz := ne_empty x hp
      clear hx hxl hxl'
      by_cases hd : dec ((L s).drop pos) = (65533, 1)
      · have HB := Lib.hid (res_bad (Rto_bad HR.out hne hd))
        have hf : ((fN (L x) : Nat) : Int) = 0 := by rw [HX.out, fN_bad _ hd]; rfl
        clear hd hne
        go_wp2_with (go_at_call 16; refine (first_any _ _).mono ?_; rintro e w1 ⟨rfl, hb1⟩; rw [hf])
        go_ret2
        exact ⟨.slice none 0 0, by rw [HB.out.2]; rfl, by rw [HB.out.1]; exact World.ownsRow_nil _ _ _ _, bcall hbw hb1 hbw.size⟩
      · have HS := Lib.hid (Rto_step HR.out hne hd)
        have hf : ((fN (L x) : Nat) : Int) = ((dec ((L s).drop pos)).2 : Int) ∧ ((fC (L x) : Nat) : Int) = ((dec ((L s).drop pos)).1 : Int) := by
          have := f_ok _ hne hd
          rw [HX.out, this.1, this.2]; exact ⟨rfl, rfl⟩
        have hnn := HR.out.2.1
        generalize hdn : (dec ((L s).drop pos)).2 = m at *
        generalize hdc : (dec ((L s).drop pos)).1 = c at *
        obtain ⟨hf1, hf2⟩ := hf
        have hm0 : ((m : Int) == 0) = false := by simp; omega
        have hmx : (m : Int) ≤ (x.size : Int) := by have := HXL.out; omega
        clear hd hne hdn hdc
        go_wp2_with (first
          | (go_at_call 16; refine (first_any _ _).mono ?_; rintro e w1 ⟨rfl, hb1⟩; rw [hf1, hf2]; have hown1 := own_below hown hb1; have hsz1 := hb1.size; clear hf1 hf2)
          | (at_builtin; refine wpList_append_own _ rfl _ _ 28 rfl w.heap.size 3 i0 (.int .i64 0) 1 8 Try.underlying28 hi hz0 hz1 hz2 rfl (by decide) _ _ _ rfl (hown1.alloc _) ⟨w1.heap.size, 0, none⟩ 1 1 [.int .i64 (c : Int)] rfl rfl (one_cell _ _ _) (one_one _) (by unfold maxLen; omega) (by omega) (by simp; omega) ?_; intro v' w2 hown' hgrow _))
        have hge := own_block_ge (hown1.alloc (.cells #[Value.int .i64 (c : Int)] 3))
        have hb3 : Below w.heap.size w w2 := ((bcall hbw hb1 hbw.size).alloc (by have := hb1.size; omega) _).grown hgrow (by have := hb1.size; simp; omega) (fun k hk => hge _ hk)
        have hown2 := hown'
        rw [← iv_snoc, ← HS.out.2] at hown2
        have hxe : L (x.extract m x.size) = (L s).drop (pos + m) := by rw [L_extract, HX.out, List.drop_drop]
        have hxs : (x.extract m x.size).size = x.size - m := by rw [← L_len, L_extract, List.length_drop, L_len]
        have hfin := HXL.out
        clear hown' hgrow hge hown1 hb1
        go_wp2
        go_roundw
        case rel => exact ⟨_, pos + m, n + 1, rfl, hxe, by omega, HS.out.1, hown2, hb3⟩
        case measure => show (x.extract m x.size).size < x.size; rw [hxs]; omega
    · have hz : x.toList.isEmpty = true := by rw [Lib.toList_data]; show (L x).isEmpty = true; rw [List.isEmpty_iff]; exact List.eq_nil_of_length_eq_zero (by rw [L_len]; omega)
      have he : (L s).drop pos = [] := by rw [← HX.out]; exact List.eq_nil_of_length_eq_zero (by rw [L_len]; omega)
      have HT := Lib.hid (Rto_end HR.out he)
      clear hx hxl hxl' he
      go_wp2
      go_ret2
      have H := res_ok HT.out.2
      refine ⟨_, by rw [H.2]; rfl, ?_, hbw⟩
      rw [H.1, iv_eq, List.length_map]
      rw [HT.out.1] at hown
      have hl : n = (R (L s)).length := by
        have := congrArg List.length HT.out.1
        have := HR.out.2.2.1
        simp at *; omega
      rw [hl] at hown
      exact hown
abbrev iz (l : List Int) : List Value := l.map (Value.int .i64)
theorem iz_at {w : World} {Bd : Nat} {A : Option Addr} {n k : Nat} {xs : List Int} (h : Reads w Bd 1 A n (iz xs)) (hk : k < n) :
    ∃ ad, A = some ad ∧ w.cell? (ad.add k) = some (.int .i64 (xs[k]?.getD 0)) := by
  obtain ⟨ad, u, e, _, hx, hc⟩ := h.at_ hk
  refine ⟨ad, e, ?_⟩
  rw [hc]
  simp only [iz, List.getElem?_map] at hx
  cases hg : xs[k]? with
  | none => rw [hg] at hx; cases hx
  | some z => rw [hg] at hx; simp at hx; rw [← hx]; rfl
theorem take_eq_succ {xs ys : List Int} {k : Nat} (h : xs.take k = ys.take k) (hx : k < xs.length) (hy : k < ys.length) (he : xs[k]?.getD 0 = ys[k]?.getD 0) : xs.take (k + 1) = ys.take (k + 1) := by
  rw [List.take_succ_eq_append_getElem hx, List.take_succ_eq_append_getElem hy, h]
  rw [List.getElem?_eq_getElem hx, List.getElem?_eq_getElem hy] at he
  simp at he; rw [he]
theorem ne_of_at {xs ys : List Int} {k : Nat} (he : ¬ xs[k]?.getD 0 = ys[k]?.getD 0) : decide (xs = ys) = false := by
  rw [decide_eq_false_iff_not]; intro e; subst e; exact he rfl
set_option maxHeartbeats 1600000 in
theorem same_any (A D : Option Addr) (n m c d : Nat) (xs ys : List Int) (Ba Bb : Nat) (w : World) (ha : Reads w Ba 1 A n (iz xs)) (hb : Reads w Bb 1 D m (iz ys)) (hn : n ≤ 9223372036854775807) (hm : m ≤ 9223372036854775807) :
    Calls Try.prog 12 #[.slice A n c, .slice D m d] w fun e w' => e = .returned (.bool (decide (xs = ys))) ∧ Below w.heap.size w w' := by
  have lx : xs.length = n := by have := ha.1; simpa [iz] using this
  have ly : ys.length = m := by have := hb.1; simpa [iz] using this
  by_cases hnm : n = m
  · subst hnm
    have LX := Lib.hid lx; have LY := Lib.hid ly; clear lx ly
    go_enter Try.func12, Try.ntmps12
    go_wp2_with fail
    go_loopw [5, 13] (fun _ i w' => ∃ k q : Nat, i = .int .i64 k ∧ k ≤ n ∧ xs.take k = ys.take k ∧ w' = w.drewN q) (fun _ i _ => n - (intOf i).toNat)
    case atStart => exact ⟨0, 0, rfl, Nat.zero_le _, by simp, rfl⟩
    case round =>
      obtain ⟨k, q, rfl, hk, ht, rfl⟩ := hrel
      have HT := Lib.hid ht; clear ht
      by_cases hlt : k < n
      · obtain ⟨ad, rfl, hc1⟩ := iz_at ha hlt
        obtain ⟨bd, rfl, hc2⟩ := iz_at hb hlt
        have h0 : (0 : Int) ≤ (k : Int) := by omega
        have h1 : (k : Int) < (n : Int) := by omega
        clear ha hb
        by_cases he : xs[k]?.getD 0 = ys[k]?.getD 0
        · have HE := Lib.hid he
          have heb : (xs[k]?.getD 0 != ys[k]?.getD 0) = false := by simp [he]
          clear he
          go_wp2_with fail
          go_quiet (fail)
          go_wp2_with fail
          go_roundw
          case rel => exact ⟨k + 1, _, by go_num, by omega, take_eq_succ HT.out (by rw [LX.out]; exact hlt) (by rw [LY.out]; exact hlt) HE.out, rfl⟩
          case measure => simp [intOf]; omega
        · have heb : (xs[k]?.getD 0 != ys[k]?.getD 0) = true := by simp [he]
          have HE := Lib.hid (ne_of_at he)
          clear he
          go_wp2_with fail
          go_quiet (fail)
          go_wp2_with fail
          go_ret
          exact ⟨by rw [HE.out]; rfl, bdrewN (bdrewN (Below.refl _ _) _) _⟩
      · obtain rfl : k = n := by omega
        have h1 : ¬ (k : Int) < (k : Int) := by omega
        go_wp2_with fail
        go_ret
        have e : xs = ys := by
          have := HT.out
          rw [List.take_of_length_le (by rw [LX.out]; omega), List.take_of_length_le (by rw [LY.out]; omega)] at this
          exact this
        exact ⟨by rw [decide_eq_true e]; rfl, bdrewN (Below.refl _ _) _⟩
  · have hne : ((n : Int) != (m : Int)) = true := by simp; omega
    have HE : decide (xs = ys) = false := by rw [decide_eq_false_iff_not]; intro e; subst e; omega
    have HE' := Lib.hid HE; clear HE lx ly
    go_enter Try.func12, Try.ntmps12
    go_wp2_with fail
    go_ret
    exact ⟨by rw [HE'.out]; rfl, Below.refl _ _⟩
end Go.Proofs.Ytmhchkhinjiebaa.Utf
