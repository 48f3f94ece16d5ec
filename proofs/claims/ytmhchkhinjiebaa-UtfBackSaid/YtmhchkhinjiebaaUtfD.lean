/-
  THE FUNCTIONS OF utf, AND THE REFERENCE's, WALKED (4): the reference's Check; a text's characters.
-/
import Derived.Test.YtmhchkhinjiebaaUtfC
import Derived.Test.YtmhchkhinjiebaaWords
import Derived.Lib.OthersKept
namespace Go.Proofs.Ytmhchkhinjiebaa.Utf
open Go.ChangeShapes Go.WideShapes Go.ChangeAt Go.RowKit
open Go.Proofs.Ytmhchkhinjiebaa.Wd
set_option linter.unusedVariables false
theorem fN_bad (l : List UInt8) (hd : dec l = (65533, 1)) : fN l = 0 := by
  unfold fN
  by_cases h : l = []
  · rw [if_pos h]
  · rw [if_neg h, if_pos hd]
theorem f_ok (l : List UInt8) (hl : l ≠ []) (hd : dec l ≠ (65533, 1)) : fN l = (dec l).2 ∧ fC l = (dec l).1 := by
  unfold fN fC; rw [if_neg hl, if_neg hl, if_neg hd, if_neg hd]; exact ⟨rfl, rfl⟩
theorem val_bd {c : Nat} (h : val c = true) : c ≤ 1114111 := by rw [val_iff] at h; omega
set_option maxHeartbeats 1600000 in
theorem rcheck_any (s : ByteArray) (w : World) (hs : s.size ≤ maxLen) :
    Calls Try.prog 9 #[.string s] w fun e w' => e = .returned (.tuple #[.int .i64 (chkI (L s)), .int .i64 (chkE (L s))]) ∧ Below w.heap.size w w' := by
  unfold maxLen at hs
  go_enter Try.func9, Try.ntmps9
  go_wp2
  go_loopw [4, 5, 6] (fun a _ _ w' => ∃ pos : Nat, a = .int .i64 pos ∧ Below w.heap.size w w' ∧ pos ≤ s.size ∧ B (L s) = (B ((L s).drop pos)).map (· + pos)) (fun a _ _ _ => s.size - (intOf a).toNat)
  case atStart => exact ⟨0, rfl, Below.refl _ _, Nat.zero_le _, by simp⟩
  case round =>
    obtain ⟨pos, rfl, hbw, hpos, hB⟩ := hrel
    have HB := Lib.hid hB; clear hB
    by_cases hp : pos < s.size
    · have hne := L_drop_ne s pos hp
      have hlen := dec_le_len _ hne
      have hwd := dec_pos ((L s).drop pos)
      rw [List.length_drop, L_len] at hlen
      have hp' : (pos : Int) ≤ (s.size : Int) := by omega
      by_cases hd : dec ((L s).drop pos) = (65533, 1)
      · have H := Lib.hid (B_bad _ hne hd)
        have hf := fN_bad _ hd
        rw [← L_extract] at hf
        have hf' : ((fN (L (s.extract pos s.size)) : Nat) : Int) = 0 := by rw [hf]; rfl
        clear hd hwd hne hlen hf
        go_wp2_with (go_at_call 16; refine (first_any _ _).mono ?_; rintro e w1 ⟨rfl, hb1⟩; rw [hf'])
        go_ret2
        exact ⟨ret_two (by unfold chkI; rw [HB.out, H.out]; simp) (by unfold chkE; rw [HB.out, H.out]; rfl), bcall hbw hb1 hbw.size⟩
      · have H := Lib.hid (B_step _ hne hd)
        have hf := (f_ok _ hne hd).1
        rw [← L_extract] at hf
        generalize hn : (dec ((L s).drop pos)).2 = n at *
        have hf' : ((fN (L (s.extract pos s.size)) : Nat) : Int) = (n : Int) := by rw [hf, L_extract, hn]
        have hn0 : ((n : Int) == 0) = false := by simp; omega
        clear hd hne hn hf
        go_wp2_with (go_at_call 16; refine (first_any _ _).mono ?_; rintro e w1 ⟨rfl, hb1⟩; rw [hf'])
        go_roundw
        case rel => exact ⟨pos + n, by go_num, bcall hbw hb1 hbw.size, by omega, by rw [HB.out, H.out, List.drop_drop]; cases B ((L s).drop (pos + n)) <;> simp; omega⟩
        case measure => simp [intOf]; omega
    · have H := Lib.hid (L_drop_nil s pos (by omega))
      have hp' : ¬ (pos : Int) < (s.size : Int) := by omega
      go_wp2
      go_ret2
      exact ⟨ret_two (by unfold chkI; rw [HB.out, H.out]; rfl) (by unfold chkE; rw [HB.out, H.out]; rfl), hbw⟩
/-- a text's characters, if it is right -/
def res (l : List UInt8) : List Int := if B l = none then (R l).map (fun c : Nat => (c : Int)) else []
theorem int_info : (Try.prog.info? 3).map (fun i => (i.zero, i.size, i.bytes)) = some (some (.int .i64 0), 1, 8) := by kernel_rfl
/-- what Chars leaves: an error's number, and a slice of the call's own that holds the characters -/
def CharsPost (l : List UInt8) (w : World) (e : Ending) (w' : World) : Prop :=
  ∃ v, e = .returned (.tuple #[v, .int .i64 (chkE l)]) ∧ w'.ownsRow w.heap.size 3 1 v (res l).length ((res l).map (Value.int .i64)) ∧ Below w.heap.size w w'
theorem res_bad {l : List UInt8} {k : Nat} (h : B l = some k) : res l = [] ∧ chkE l = 11 := by
  unfold res chkE; rw [h]; simp
theorem res_ok {l : List UInt8} (h : B l = none) : res l = (R l).map (fun c : Nat => (c : Int)) ∧ chkE l = 0 := by
  unfold res chkE; rw [h]; simp
theorem R_vals (l : List UInt8) (h : B l = none) : ∀ c ∈ R l, val c = true := (split_ok l.length l (Nat.le_refl _) h).2
/-- the first so many bytes' characters -/
def Rto (l : List UInt8) (pos : Nat) (n : Nat) : Prop := R l = (R l).take n ++ R (l.drop pos) ∧ n ≤ pos ∧ n ≤ (R l).length ∧ B l = (B (l.drop pos)).map (· + pos)
theorem Rto_0 (l : List UInt8) : Rto l 0 0 := ⟨by simp, Nat.le_refl _, Nat.zero_le _, by simp⟩
theorem Rto_step {l : List UInt8} {pos n : Nat} (h : Rto l pos n) (hne : l.drop pos ≠ []) (hd : dec (l.drop pos) ≠ (65533, 1)) :
    Rto l (pos + (dec (l.drop pos)).2) (n + 1) ∧ (R l).take (n + 1) = (R l).take n ++ [(dec (l.drop pos)).1] := by
  obtain ⟨h1, h2, h3, h4⟩ := h
  have hs := R_step _ hne hd
  have hb := B_step _ hne hd
  have hp := dec_pos (l.drop pos)
  rw [hs] at h1
  have hlt : n < (R l).length := by
    have := congrArg List.length h1
    simp [List.length_take] at this; omega
  have ht : (R l).take (n + 1) = (R l).take n ++ [(dec (l.drop pos)).1] := by
    have hl : ((R l).take n).length = n := by rw [List.length_take]; omega
    conv => lhs; rw [h1]
    rw [List.take_append, hl, List.take_of_length_le (by rw [hl]; omega)]
    simp
  refine ⟨⟨?_, by omega, by omega, ?_⟩, ht⟩
  · rw [ht, List.append_assoc, ← List.drop_drop]; exact h1
  · rw [h4, hb, List.drop_drop]
    cases B (l.drop (pos + (dec (l.drop pos)).2)) <;> simp; omega
theorem Rto_end {l : List UInt8} {pos n : Nat} (h : Rto l pos n) (he : l.drop pos = []) : (R l).take n = R l ∧ B l = none := by
  obtain ⟨h1, h2, h3, h4⟩ := h
  rw [he, R_nil, List.append_nil] at h1
  rw [he] at h4
  exact ⟨h1.symm, h4⟩
theorem Rto_bad {l : List UInt8} {pos n : Nat} (h : Rto l pos n) (hne : l.drop pos ≠ []) (hd : dec (l.drop pos) = (65533, 1)) : B l = some pos := by
  rw [h.2.2.2, B_bad _ hne hd]; simp
theorem own_mono {w : World} {base base' : Nat} {e : TypeId} {size : Nat} {v : Value} {n : Nat} {xs : List Value} (h : w.ownsRow base e size v n xs) (hb : base' ≤ base) : w.ownsRow base' e size v n xs := by
  refine ⟨h.1, ?_⟩
  rcases h.2 with h' | ⟨g, cap, cur, h1, h2, h3⟩
  · exact .inl h'
  · exact .inr ⟨g, cap, cur, h1, by omega, h3⟩
theorem own_block_ge {w : World} {base : Nat} {e : TypeId} {size : Nat} {v : Value} {n : Nat} {xs : List Value} (h : w.ownsRow base e size v n xs) : ∀ g, v.ownBlock = some g → base ≤ g := by
  intro g hg
  rcases h.2 with ⟨rfl, _⟩ | ⟨g', cap, cur, rfl, h2, _⟩
  · simp [Value.ownBlock] at hg
  · simp [Value.ownBlock] at hg; omega
theorem own_iter {w : World} {base : Nat} {e : TypeId} {size : Nat} {v : Value} {n : Nat} {xs : List Value} (h : w.ownsRow base e size v n xs) {k : Nat} (hk : k < base) (s : ByteArray) (p : Nat) : (World.iterAt w k s p).ownsRow base e size v n xs := by
  refine ⟨h.1, ?_⟩
  rcases h.2 with h' | ⟨g, cap, cur, h1, h2, h3, h4⟩
  · exact .inl h'
  · exact .inr ⟨g, cap, cur, h1, h2, by rw [Lib.iterAt_other w k g s p (by omega)]; exact h3, h4⟩
abbrev iv (l : List Nat) : List Value := l.map (fun c : Nat => Value.int .i64 (c : Int))
theorem iv_eq (l : List Nat) : (l.map (fun c : Nat => (c : Int))).map (Value.int .i64) = iv l := by simp [iv]
theorem iv_snoc (l : List Nat) (c : Nat) : iv (l ++ [c]) = iv l ++ [Value.int .i64 (c : Int)] := by simp [iv]
theorem one_cell (w : World) (v : Value) (t : TypeId) : ∀ (j : Nat) (u : Value), [v][j]? = some u → (w.alloc (.cells #[v] t)).cell? ((Addr.mk w.heap.size 0 none).add j) = some u := by
  intro j u hj
  match j, hj with
  | 0, hj => simp at hj; subst hj; simp [Addr.add]
theorem one_one (c : Int) : ∀ u ∈ [Value.int .i64 c], u.oneCell' = true := by intro u hu; simp at hu; subst hu; rfl
set_option maxHeartbeats 3200000 in
theorem chars_any (s : ByteArray) (w : World) (hs : s.size ≤ 8192) :
    Calls Try.prog 10 #[.string s] w (CharsPost (L s) w) := by
  obtain ⟨i0, hi, hz0, hz1, hz2⟩ := info_parts int_info
  cases hB : B (L s) with
  | some k =>
    have H := Lib.hid (res_bad hB)
    have hE : chkE (L s) = 11 := (res_bad hB).2
    clear hB
    go_enter Try.func10, Try.ntmps10
    go_wp2_with (go_at_call 8; refine (check_any _ _ (by unfold maxLen; omega)).mono ?_; rintro e w1 ⟨rfl, hb1⟩; rw [hE])
    go_ret2
    exact ⟨.slice none 0 0, by rw [hE]; rfl, by rw [H.out.1]; exact World.ownsRow_nil _ _ _ _, hb1⟩
  | none =>
    have hok := Lib.hid hB
    have H := Lib.hid (res_ok hB)
    have hE : chkE (L s) = 0 := (res_ok hB).2
    clear hB
    go_enter Try.func10, Try.ntmps10
    go_wp2_with (go_at_call 8; refine (check_any _ _ (by unfold maxLen; omega)).mono ?_; rintro e w1 ⟨rfl, hb1⟩)
    have hE' := Lib.hid hE
    clear hE
    have hbase := hb1.size
    go_loopw [6, 8] (fun v _ w' => ∃ pos n : Nat, w'.iterPos w1.heap.size = pos ∧ w'.heap[w1.heap.size]? = some (.stringIter s pos) ∧ pos ≤ s.size ∧ Rto (L s) pos n ∧ w'.ownsRow (w1.heap.size + 1) 3 1 v n (iv ((R (L s)).take n)) ∧ Below w1.heap.size w1 w') (fun _ _ w' => s.size - w'.iterPos w1.heap.size)
    case atStart => exact ⟨0, 0, by simp [World.iterPos_iter], World.iter_heap _ _ _, Nat.zero_le _, Rto_0 _, by simpa using World.ownsRow_nil _ _ _ _, (Below.refl _ _).alloc (Nat.le_refl _) _⟩
    case round =>
      obtain ⟨pos, n, hip, hit, hpos, hR, hown, hbw⟩ := hrel
      have HR := Lib.hid hR; clear hR
      have hbsz := hbw.size
      have HIP := Lib.hid hip
      by_cases hp : pos < s.size
      · have hne := L_drop_ne s pos hp
        have hlen := dec_le_len _ hne
        have hwd := dec_pos ((L s).drop pos)
        rw [List.length_drop, L_len] at hlen
        have hle : ((dec ((L s).drop pos)).1 : Int) ≤ 2147483647 := by have := decode_le s pos; rw [dec_at] at this; omega
        have hd : dec ((L s).drop pos) ≠ (65533, 1) := fun hd => by
          have := Rto_bad HR.out hne hd
          rw [hok.out] at this; cases this
        have HS := Lib.hid (Rto_step HR.out hne hd)
        have hnx : ∀ ty, (Instr.next (.pointer (some ⟨w1.heap.size, 0, none⟩)) true ty).run Try.prog wr = _ := fun ty => Lib.run_next_any_at wr w1.heap.size s pos ty hit hp
        rw [dec_at] at hnx
        have hnn := HR.out.2.1
        generalize hdn : (dec ((L s).drop pos)).2 = m at *
        generalize hdc : (dec ((L s).drop pos)).1 = c at *
        clear hd hne hdn hdc
        have hown1 := own_iter hown (Nat.lt_succ_self _) s (pos + m)
        have hit1 := Lib.iterAt_heap wr w1.heap.size s pos (pos + m) hit
        have hb2 := Lib.below_iterAt hbw (Nat.le_refl _) s (pos + m)
        have hltk : w1.heap.size < (World.iterAt wr w1.heap.size s (pos + m)).heap.size := (Array.getElem?_eq_some_iff.1 hit1).1
        clear hit hown hbw
        generalize World.iterAt wr w1.heap.size s (pos + m) = wi at *
        go_wp2_with (at_builtin; refine wpList_append_own _ rfl _ _ 28 rfl (w1.heap.size + 1) 3 i0 (.int .i64 0) 1 8 Try.underlying28 hi hz0 hz1 hz2 rfl (by decide) _ _ _ rfl (hown1.alloc _) ⟨wi.heap.size, 0, none⟩ 1 1 [.int .i64 (c : Int)] rfl rfl (one_cell _ _ _) (one_one _) (by unfold maxLen; omega) (by omega) (by simp; omega) ?_; intro v' w2 hown' hgrow _)
        have hge := own_block_ge (hown1.alloc (.cells #[Value.int .i64 (c : Int)] 3))
        have hit2 : w2.heap[w1.heap.size]? = some (.stringIter s (pos + m)) := by
          rw [hgrow.block w1.heap.size (by simp; omega) (fun e => by have := hge _ e.symm; omega), Below.heap_alloc _ _ _ hltk]; exact hit1
        have hb3 : Below w1.heap.size w1 w2 := (hb2.alloc (Nat.le_of_lt hltk) _).grown hgrow (by simp; omega) (fun k hk => by have := hge _ hk; omega)
        have hip2 : w2.iterPos w1.heap.size = pos + m := by unfold World.iterPos; rw [hit2]
        have hown2 := hown'
        rw [← iv_snoc, ← HS.out.2] at hown2
        clear hown' hgrow hge hown1 hit1 hb2 hip
        go_wp2
        go_roundw
        case rel => exact ⟨pos + m, n + 1, hip2, hit2, by omega, HS.out.1, hown2, hb3⟩
        case measure => rw [hip2, HIP.out]; omega
      · have hnx : ∀ ty, (Instr.next (.pointer (some ⟨w1.heap.size, 0, none⟩)) true ty).run Try.prog wr = _ := fun ty => Lib.run_next_end_at wr w1.heap.size s pos ty hit hp
        have HT := Lib.hid (Rto_end HR.out (L_drop_nil s pos (by omega)))
        go_wp2
        go_ret2
        refine ⟨_, by rw [hE'.out]; rfl, ?_, hb1.trans (hbw.mono hb1.size)⟩
        rw [H.out.1, iv_eq, List.length_map]
        rw [HT.out.1] at hown
        have hl : n = (R (L s)).length := by
          have := congrArg List.length HT.out.1
          have := HR.out.2.2.1
          simp at *; omega
        rw [hl] at hown
        exact own_mono hown (by have := hb1.size; omega)
end Go.Proofs.Ytmhchkhinjiebaa.Utf
