/-
  WHETHER A TEXT HAS ANY OF SOME SIGNS: strings.IndexRune, IndexAny, ContainsAny at signs below 128: walked.
-/
import Derived.Test.YtgflodjohaemiaaDoorUtp
import Derived.Test.YtgflodjohaemiaaDoorShf
import Derived.WalkMore
namespace Go.Proofs.YtgflodjohaemiaaDoor.Ky
open Go.ChangeShapes Go.WideShapes Go.ChangeAt Go.RowKit
open Go.Proofs.YtgflodjohaemiaaDoor
open Go.Proofs.YtgflodjohaemiaaDoor.Wd
open Go.Proofs.YtgflodjohaemiaaDoor.Utf (L L_len dec bt enc val dec_at L_drop_ne L_drop_nil dec_le_len dec_pos enc_dec ct val_iff enc_utf8 valid_val)
set_option linter.unusedVariables false
set_option linter.unusedSimpArgs false
theorem dec_lo {l : List UInt8} (hl : l ≠ []) (h : bt l 0 < 128) : dec l = (bt l 0, 1) := by
  unfold dec; simp [h]
theorem enc_hi {c : Nat} (h : 128 ≤ c) (hv : val c = true) : ∀ b ∈ enc c, 128 ≤ b.toNat := by
  rw [val_iff] at hv
  intro b hb
  unfold enc at hb
  have aux : ∀ n : Nat, n < 256 → (UInt8.ofNat n).toNat = n := fun n hn => Utf.toNat_u8 hn
  rw [if_neg (by omega)] at hb
  split at hb
  · simp only [List.mem_cons, List.not_mem_nil, or_false] at hb; rcases hb with rfl | rfl <;> (rw [aux _ (by omega)]; omega)
  · split at hb
    · simp only [List.mem_cons, List.not_mem_nil, or_false] at hb; rcases hb with rfl | rfl | rfl <;> (rw [aux _ (by omega)]; omega)
    · simp only [List.mem_cons, List.not_mem_nil, or_false] at hb; rcases hb with rfl | rfl | rfl | rfl <;> (rw [aux _ (by omega)]; omega)
theorem bt_0 {l : List UInt8} {b : UInt8} {t : List UInt8} (h : l = b :: t) : bt l 0 = b.toNat := by subst h; rfl
theorem dec_hi {l : List UInt8} (hl : l ≠ []) (h : 128 ≤ bt l 0) : 128 ≤ (dec l).1 ∧ ∀ b ∈ l.take (dec l).2, 128 ≤ b.toNat := by
  obtain ⟨b0, t, rfl⟩ : ∃ b t, l = b :: t := by cases l with
    | nil => exact absurd rfl hl
    | cons b t => exact ⟨b, t, rfl⟩
  by_cases hd : dec (b0 :: t) = (65533, 1)
  · rw [hd]
    refine ⟨by decide, fun b hb => ?_⟩
    simp at hb; subst hb; exact h
  · obtain ⟨h1, h2, h3⟩ := enc_dec _ hl hd
    have hc : 128 ≤ (dec (b0 :: t)).1 := by
      rcases Nat.lt_or_ge (dec (b0 :: t)).1 128 with q | q
      · exfalso
        have h4 : enc (dec (b0 :: t)).1 = [UInt8.ofNat (dec (b0 :: t)).1] := by unfold enc; rw [if_pos q]
        have h5 : (dec (b0 :: t)).2 = 1 := by rw [h3, h4]; rfl
        rw [h4, h5] at h2
        have h6 : b0 = UInt8.ofNat (dec (b0 :: t)).1 := by simpa using h2
        have h7 : b0.toNat = (dec (b0 :: t)).1 := by
          have := congrArg UInt8.toNat h6
          rw [Utf.toNat_u8 (by omega)] at this; exact this
        have h8 : 128 ≤ b0.toNat := h
        omega
      · exact q
    exact ⟨hc, fun b hb => enc_hi hc h1 b (by rw [← h2]; exact hb)⟩
/-- signs below 128 -/
def Asc (cs : ByteArray) : Prop := ∀ b ∈ L cs, b.toNat < 128
theorem L_at (s : ByteArray) (k : Nat) (h : k < s.size) : s[k] ∈ L s := by
  unfold L
  have : s[k] = s.data.toList[k]'(by rw [Array.length_toList]; exact h) := rfl
  rw [this]; exact List.getElem_mem _
theorem idx_no {l : List UInt8} {c : UInt8} (h : ∀ b ∈ l, b ≠ c) : Lib.indexByte l c = -1 := by
  induction l with
  | nil => rfl
  | cons b l ih =>
    have h1 := ih (fun x hx => h x (List.mem_cons_of_mem _ hx))
    unfold Lib.indexByte
    rw [if_neg (by rw [beq_iff_eq]; exact h b List.mem_cons_self), h1]; rfl
theorem enc_len {c : Nat} (h : 128 ≤ c) : 2 ≤ (enc c).length ∧ (enc c).length ≤ 4 := by
  unfold enc; rw [if_neg (by omega)]; split
  · exact ⟨by simp, by simp⟩
  · split
    · exact ⟨by simp, by simp⟩
    · exact ⟨by simp, by simp⟩
set_option maxRecDepth 20000 in
set_option maxHeartbeats 6400000 in
/-- a character from 128 on is not among signs below 128 -/
theorem ir_hi (cs : ByteArray) (c : Nat) (w : World) (ha : Asc cs) (h2 : 2 ≤ cs.size) (h4 : cs.size ≤ 4) (hc : 128 ≤ c) (hv : val c = true) (hne : c ≠ 65533) :
    Calls Tryd.prog 68 #[.string cs, .int .i32 (c : Int)] w fun e w' => e = .returned (.int .i64 (-1)) ∧ Below w.heap.size w w' := by
  have hb := Utf.val_iff c
  have hvr := Tryd.utf8_ValidRune (c : Int) w
  have hvt : Lib.validRune (c : Int) = true := by
    unfold Lib.validRune; rw [decide_eq_true_iff]
    have := hb.1 hv; omega
  rw [hvt] at hvr
  have hE : (Utf8.encode (c : Int)).data.toList = enc c := enc_utf8 c hv
  have hel := enc_len hc
  obtain ⟨E, hEE⟩ : ∃ E, Utf8.encode (c : Int) = E := ⟨_, rfl⟩
  rw [hEE] at hE
  have hsz : E.size = (enc c).length := by rw [← hE, Array.length_toList]; rfl
  have hhi : ∀ k (h : k < E.size), 128 ≤ E[k].toNat := fun k h => enc_hi hc hv _ (by rw [← hE]; exact L_at E k h)
  have hlo : ∀ k (h : k < cs.size), cs[k].toNat < 128 := fun k h => ha _ (L_at cs k h)
  have c1 : ¬ (c : Int) < 128 := by omega
  have c2 : ((c : Int) == 65533) = false := by rw [beq_eq_false_iff_ne]; omega
  have c0 : (0 : Int) ≤ (c : Int) := by omega
  clear hb hvt hE
  obtain ⟨n, hn⟩ : ∃ n, E.size = n + 1 := ⟨E.size - 1, by omega⟩
  have hn1 : 1 ≤ n ∧ n ≤ 3 := by omega
  clear hel hsz
  go_enter Tryd.func68, Tryd.ntmps68
  go_wp2_with fail
  refine hvr.mono ?_; rintro e w1 ⟨rfl, rfl⟩
  go_upto_region 5 with fail
  go_step3
  have hn64 : IntKind.i64.wrap (n : Int) = (n : Int) := by simp [IntKind.wrap, IntKind.bits, IntKind.signed]; omega
  go_upto_region 5 with fail
  go_loopw [9] (fun i wr => i = .int .i64 (n : Int) ∧ wr = w1) (fun _ _ => 0)
  case atStart => exact ⟨by first | rfl | (simp [hn]), rfl⟩
  case round =>
    obtain ⟨rfl, rfl⟩ := hrel
    by_cases hlt : n < cs.size
    · have hltI : (n : Int) < (cs.size : Int) := by omega
      have hlE : (n : Int) < (E.size : Int) := by omega
      have h0 : ¬ (n : Int) < 0 := by omega
      have hlE' : n < E.size := by omega
      have z1 := hlo n hlt
      have z2 := hhi n hlE'
      have z3 : ((cs[n].toNat : Int) != (E[n].toNat : Int)) = true := by rw [bne_iff_ne]; omega
      have hn1' : IntKind.i64.wrap ((n : Int) + 1) = (n : Int) + 1 := by simp [IntKind.wrap, IntKind.bits, IntKind.signed]; omega
      have hib := fun wr => Tryd.strings_IndexByte (cs.extract (n + 1) cs.size) ((E[n].toNat : Nat) : Int) wr
      rw [show Lib.indexByte (cs.extract (n + 1) cs.size).data.toList ((E[n].toNat : Nat) : Int).toNat.toUInt8 = -1 from idx_no fun b hb => by
        have hb2 : b ∈ (L cs).drop (n + 1) := by rw [← Utf.L_extract]; exact hb
        have hb3 := ha b (List.mem_of_mem_drop hb2)
        intro e
        have : b = E[n] := by rw [e]; simp
        rw [this] at hb3; omega] at hib
      have l1 : ¬ (n : Int) + 1 < 0 := by omega
      have l2 : (n : Int) + 1 ≤ (cs.size : Int) := by omega
      clear hn hlo hhi
      go_wp2_with fail
      go_step3
      go_upto_region 6 with fail
      go_quiet (fail)
      go_upto_region 7 with fail
      have bq : Below wr.heap.size wr (wr.drewN nq) := Utf.bdrewN (Below.refl _ _) _
      generalize wr.drewN nq = W7 at *
      go_quiet (first | (go_at_call 77; refine Calls.quiet_of_same (hib _)))
      go_wp2_with fail
      dsimp +zetaDelta only [Exit.noGoto, Exit.inBlock, Exit.then]
      go_ret
      exact ⟨rfl, Utf.bdrewN bq _⟩
    · have hltI : ¬ (n : Int) < (cs.size : Int) := by omega
      go_wp2_with fail
      go_ret
      exact ⟨rfl, Below.refl _ _⟩
theorem any_no {l cs : List UInt8} (h : ∀ b ∈ l, cs.contains b = false) : Lib.indexAny l cs = -1 := by
  induction l with
  | nil => rfl
  | cons b l ih =>
    have h1 := ih (fun x hx => h x (List.mem_cons_of_mem _ hx))
    unfold Lib.indexAny
    rw [if_neg (by rw [h b List.mem_cons_self]; decide), h1]; rfl
theorem any_yes {l cs : List UInt8} {b : UInt8} (hb : b ∈ l) (h : cs.contains b = true) : 0 ≤ Lib.indexAny l cs := by
  induction l with
  | nil => cases hb
  | cons a l ih =>
    unfold Lib.indexAny
    split
    · exact Int.le_refl _
    · rename_i q
      rcases List.mem_cons.1 hb with rfl | hm
      · exact absurd h q
      · have := ih hm
        rw [if_neg (by rw [beq_iff_eq]; omega)]; omega
/-- a text has one of some signs -/
def hasB (l cs : List UInt8) : Bool := l.any fun b => cs.contains b
theorem has_any (l cs : List UInt8) : decide (0 ≤ Lib.indexAny l cs) = hasB l cs := by
  unfold hasB
  cases h : l.any fun b => cs.contains b with
  | true =>
    obtain ⟨b, hb, hc⟩ := List.any_eq_true.1 h
    exact decide_eq_true (any_yes hb hc)
  | false =>
    rw [List.any_eq_false] at h
    rw [any_no (fun b hb => by simpa using h b hb)]; rfl
/-- the two lists of signs that are asked for -/
abbrev sgn4 : ByteArray := ⟨#[92, 91, 93, 34]⟩
abbrev sgn2 : ByteArray := ⟨#[91, 93]⟩
theorem asc4 : Asc sgn4 := by intro b hb; simp [L] at hb; rcases hb with rfl | rfl | rfl | rfl <;> decide
theorem asc2 : Asc sgn2 := by intro b hb; simp [L] at hb; rcases hb with rfl | rfl <;> decide
set_option maxRecDepth 20000 in
set_option maxHeartbeats 6400000 in
/-- U+FFFD is not among signs below 128 -/
theorem ir_fffd (cs : ByteArray) (w : World) (ha : Asc cs) (hs : cs.size ≤ 4) :
    Calls Tryd.prog 68 #[.string cs, .int .i32 65533] w fun e w' => e = .returned (.int .i64 (-1)) ∧ Below w.heap.size w w' := by
  have hbw : ∀ pos, Below w.heap.size w (w.iter cs pos) := fun pos => (Below.refl _ _).alloc (Nat.le_refl _) _
  have HBW := Lib.hid hbw; clear hbw
  go_enter Tryd.func68, Tryd.ntmps68
  go_wp2_with fail
  go_loopw [5, 6] (fun _ _ w' => ∃ pos : Nat, w' = w.iter cs pos ∧ pos ≤ cs.size) (fun _ _ w' => cs.size - w'.iterPos w.heap.size)
  case atStart => exact ⟨0, rfl, Nat.zero_le _⟩
  case round =>
    obtain ⟨pos, rfl, hpos⟩ := hrel
    by_cases hp : pos < cs.size
    · have hne := L_drop_ne cs pos hp
      have hlo : bt ((L cs).drop pos) 0 < 128 := by
        obtain ⟨b, t, hbt⟩ : ∃ b t, (L cs).drop pos = b :: t := by cases h : (L cs).drop pos with
          | nil => exact absurd h hne
          | cons b t => exact ⟨b, t, rfl⟩
        rw [bt_0 hbt]
        exact ha b (List.mem_of_mem_drop (by rw [hbt]; exact List.mem_cons_self))
      have hnx : ∀ ty, (Instr.next (.pointer (some ⟨w.heap.size, 0, none⟩)) true ty).run Tryd.prog (w.iter cs pos) = _ := fun ty => run_next_any w cs pos ty hp
      rw [dec_at, dec_lo hne hlo] at hnx
      simp only [] at hnx
      generalize bt ((L cs).drop pos) 0 = b at *
      have h2 : ((b : Int) == 65533) = false := by rw [beq_eq_false_iff_ne]; omega
      clear hne
      go_wp2_with fail
      go_roundw
      case rel => exact ⟨pos + 1, rfl, by omega⟩
      case measure => simp; omega
    · have hnx : ∀ ty, (Instr.next (.pointer (some ⟨w.heap.size, 0, none⟩)) true ty).run Tryd.prog (w.iter cs pos) = _ := fun ty => run_next_end w cs pos ty hp
      go_wp2_with fail
      go_ret
      exact ⟨rfl, HBW.out _⟩
theorem byte_any (l : List UInt8) (c : UInt8) : decide (0 ≤ Lib.indexByte l c) = l.contains c := by
  induction l with
  | nil => rfl
  | cons b l ih =>
    have h1 := Lib.indexByte_ge l c
    unfold Lib.indexByte
    rw [List.contains_cons]
    by_cases q : b = c
    · subst q; simp
    · have q2 : (b == c) = false := by rw [beq_eq_false_iff_ne]; exact q
      have q3 : (c == b) = false := by rw [beq_eq_false_iff_ne]; exact fun e => q e.symm
      rw [q2, q3, Bool.false_or, ← ih, if_neg (by decide)]
      split
      · rename_i h; rw [beq_iff_eq] at h; rw [h]
      · rename_i h
        rw [beq_iff_eq] at h
        by_cases g : 0 ≤ Lib.indexByte l c
        · rw [decide_eq_true g, decide_eq_true (by omega)]
        · omega
/-- what IndexRune answers: whether a character is one of some signs -/
def IrP (cs : ByteArray) (c : Nat) (w : World) (e : Ending) (w' : World) : Prop := (∃ k : Int, e = .returned (.int .i64 k) ∧ decide (0 ≤ k) = (decide (c < 128) && (L cs).contains (UInt8.ofNat c))) ∧ Below w.heap.size w w'
theorem ir_any (cs : ByteArray) (c : Nat) (w : World) (ha : Asc cs) (h2 : 2 ≤ cs.size) (h4 : cs.size ≤ 4) (hv : val c = true) :
    Calls Tryd.prog 68 #[.string cs, .int .i32 (c : Int)] w (IrP cs c w) := by
  by_cases h : c < 128
  · refine (Tryd.strings_IndexRune_ascii cs (c : Int) w (by omega) (by omega)).mono ?_
    rintro e w' ⟨rfl, rfl⟩
    exact ⟨⟨_, rfl, by rw [byte_any, decide_eq_true h, Bool.true_and]; rfl⟩, Below.refl _ _⟩
  · have hd : (decide (c < 128) && (L cs).contains (UInt8.ofNat c)) = false := by rw [decide_eq_false h, Bool.false_and]
    by_cases h3 : c = 65533
    · subst h3
      refine (ir_fffd cs w ha h4).mono ?_
      rintro e w' ⟨rfl, hb⟩
      exact ⟨⟨_, rfl, by rw [hd]; rfl⟩, hb⟩
    · refine (ir_hi cs c w ha h2 h4 (by omega) hv h3).mono ?_
      rintro e w' ⟨rfl, hb⟩
      exact ⟨⟨_, rfl, by rw [hd]; rfl⟩, hb⟩
theorem dec_val {l : List UInt8} (hl : l ≠ []) : val (dec l).1 = true := by
  by_cases hd : dec l = (65533, 1)
  · rw [hd]; decide
  · exact (enc_dec l hl hd).1
theorem no_more {l cs : List UInt8} {pos m : Nat} (h : ∀ b ∈ l.take pos, cs.contains b = false) (h2 : ∀ b ∈ (l.drop pos).take m, cs.contains b = false) : ∀ b ∈ l.take (pos + m), cs.contains b = false := by
  rw [List.take_add]
  intro b hb
  rcases List.mem_append.1 hb with q | q
  · exact h b q
  · exact h2 b q
set_option maxRecDepth 20000 in
set_option maxHeartbeats 6400000 in
theorem iany_short (s cs : ByteArray) (w : World) (ha : Asc cs) (h2 : 2 ≤ cs.size) (h4 : cs.size ≤ 4) (h8 : s.size ≤ 8) :
    Calls Tryd.prog 57 #[.string s, .string cs] w fun e w' => (∃ k : Int, e = .returned (.int .i64 k) ∧ decide (0 ≤ k) = hasB (L s) (L cs)) ∧ Below w.heap.size w w' := by
  have hsh := Tryd.strings_shouldUseASCIISet (s.size : Int) w
  rw [decide_eq_false (by omega : ¬ (8 : Int) < (s.size : Int))] at hsh
  have hne0 : ¬ cs.toList = [] := by
    intro e
    have := congrArg List.length e
    rw [Lib.toList_data, Array.length_toList] at this
    have e2 : cs.data.size = cs.size := rfl
    rw [e2] at this
    have e3 : cs.size = 0 := this
    omega
  have hne0b : cs.toList.isEmpty = false := by simpa using hne0
  have hne1 : ((cs.size : Int) == 1) = false := by rw [beq_eq_false_iff_ne]; omega
  have hbw : ∀ pos, Below w.heap.size w (w.iter s pos) := fun pos => (Below.refl _ _).alloc (Nat.le_refl _) _
  have HBW := Lib.hid hbw; clear hbw
  go_enter Tryd.func57, Tryd.ntmps57
  go_wp2_with fail
  refine hsh.mono ?_; rintro e w1 ⟨rfl, rfl⟩
  go_wp2_with fail
  go_loopw [9, 10] (fun _ _ w' => ∃ pos : Nat, w'.iterPos w1.heap.size = pos ∧ w'.heap[w1.heap.size]? = some (.stringIter s pos) ∧ pos ≤ s.size ∧ (∀ b ∈ (L s).take pos, (L cs).contains b = false) ∧ Below w1.heap.size w1 w') (fun _ _ w' => s.size - w'.iterPos w1.heap.size)
  case atStart => exact ⟨0, by simp [World.iterPos_iter], World.iter_heap _ _ _, Nat.zero_le _, fun b hb => by simp at hb, (Below.refl _ _).alloc (Nat.le_refl _) _⟩
  case round =>
    obtain ⟨pos, hip, hit, hpos, hno, hbw⟩ := hrel
    have HNO := Lib.hid hno; clear hno
    have HIP := Lib.hid hip; clear hip
    by_cases hp : pos < s.size
    · have hne := L_drop_ne s pos hp
      have hlen := dec_le_len _ hne
      have hwd := dec_pos ((L s).drop pos)
      rw [List.length_drop, L_len] at hlen
      have hvl := dec_val hne
      have hvb := (val_iff _).1 hvl
      have hle : ((dec ((L s).drop pos)).1 : Int) ≤ 2147483647 := by omega
      have hnx : ∀ ty, (Instr.next (.pointer (some ⟨w1.heap.size, 0, none⟩)) true ty).run Tryd.prog wr = _ := fun ty => Lib.run_next_any_at wr w1.heap.size s pos ty hit hp
      rw [dec_at] at hnx
      have HTK := Lib.hid (show ∀ b, (dec ((L s).drop pos)).1 < 128 → b ∈ ((L s).drop pos).take (dec ((L s).drop pos)).2 → b = UInt8.ofNat (dec ((L s).drop pos)).1 from fun b hb hm => by
        obtain ⟨b0, t, hbt⟩ : ∃ b t, (L s).drop pos = b :: t := by cases h : (L s).drop pos with
          | nil => exact absurd h hne
          | cons b t => exact ⟨b, t, rfl⟩
        rcases Nat.lt_or_ge (bt ((L s).drop pos) 0) 128 with q | q
        · rw [dec_lo hne q] at hm ⊢
          rw [hbt] at hm ⊢
          simp at hm; subst hm
          show b = UInt8.ofNat b.toNat
          simp
        · have := (dec_hi hne q).1; omega)
      have HHI := Lib.hid (show ∀ b, ¬ (dec ((L s).drop pos)).1 < 128 → b ∈ ((L s).drop pos).take (dec ((L s).drop pos)).2 → 128 ≤ b.toNat from fun b hb hm => by
        rcases Nat.lt_or_ge (bt ((L s).drop pos) 0) 128 with q | q
        · exfalso; apply hb; rw [dec_lo hne q]; exact q
        · exact (dec_hi hne q).2 b hm)
      have hmem : (dec ((L s).drop pos)).1 < 128 → UInt8.ofNat (dec ((L s).drop pos)).1 ∈ L s := fun hb => by
        obtain ⟨b0, t, hbt⟩ : ∃ b t, (L s).drop pos = b :: t := by cases h : (L s).drop pos with
          | nil => exact absurd h hne
          | cons b t => exact ⟨b, t, rfl⟩
        have hm : b0 ∈ ((L s).drop pos).take (dec ((L s).drop pos)).2 := by
          rw [hbt]
          obtain ⟨m, hm⟩ : ∃ m, (dec (b0 :: t)).2 = m + 1 := ⟨(dec (b0 :: t)).2 - 1, by have := dec_pos (b0 :: t); omega⟩
          rw [hm]; exact List.mem_cons_self
        rw [← HTK.out b0 hb hm]
        exact List.mem_of_mem_drop (by rw [hbt]; exact List.mem_cons_self : b0 ∈ (L s).drop pos)
      have HMEM := Lib.hid hmem
      clear hmem
      have hir := fun W => ir_any cs (dec ((L s).drop pos)).1 W ha h2 h4 hvl
      unfold IrP at hir
      generalize hdn : (dec ((L s).drop pos)).2 = m at *
      generalize hdc : (dec ((L s).drop pos)).1 = c at *
      clear hne hdn hdc hvl hvb
      have hit1 := Lib.iterAt_heap wr w1.heap.size s pos (pos + m) hit
      have hb2 := Lib.below_iterAt hbw (Nat.le_refl _) s (pos + m)
      have hltk : w1.heap.size < (World.iterAt wr w1.heap.size s (pos + m)).heap.size := (Array.getElem?_eq_some_iff.1 hit1).1
      clear hit hbw
      generalize World.iterAt wr w1.heap.size s (pos + m) = wi at *
      go_wp2_with fail
      refine (hir wi).mono ?_; rintro e w2 ⟨⟨k, rfl, hk⟩, hb3⟩
      have hit2 : w2.heap[w1.heap.size]? = some (.stringIter s (pos + m)) := (hb3.block _ hltk).trans hit1
      have hb4 := hb2.trans (hb3.mono (Nat.le_of_lt hltk))
      have hip2 : w2.iterPos w1.heap.size = pos + m := by unfold World.iterPos; rw [hit2]
      have HK := Lib.hid hk; clear hk hir hb3 hit1 hb2
      by_cases h0 : 0 ≤ k
      · have HR := Lib.hid (show decide (0 ≤ (pos : Int)) = hasB (L s) (L cs) from by
          have h1 := HK.out
          rw [decide_eq_true h0] at h1
          have h3 := (Bool.and_eq_true _ _ ▸ h1.symm : decide (c < 128) = true ∧ (L cs).contains (UInt8.ofNat c) = true)
          rw [decide_eq_true (by omega : 0 ≤ (pos : Int))]
          exact (List.any_eq_true.2 ⟨_, HMEM.out (of_decide_eq_true h3.1), h3.2⟩).symm)
        go_wp2_with fail
        go_ret
        exact ⟨⟨_, rfl, HR.out⟩, hb4⟩
      · have HN := Lib.hid (show ∀ b ∈ (L s).take (pos + m), (L cs).contains b = false from no_more HNO.out fun b hb => by
          have h1 := HK.out
          rw [decide_eq_false h0] at h1
          by_cases q : c < 128
          · rw [decide_eq_true q, Bool.true_and] at h1
            rw [HTK.out b q hb]; exact h1.symm
          · have h3 := HHI.out b q hb
            cases hcb : (L cs).contains b with
            | false => rfl
            | true => have := ha b (by simpa using hcb); omega)
        go_wp2_with fail
        go_roundw
        case rel => exact ⟨pos + m, hip2, hit2, by omega, HN.out, hb4⟩
        case measure => rw [hip2, HIP.out]; omega
    · have hnx : ∀ ty, (Instr.next (.pointer (some ⟨w1.heap.size, 0, none⟩)) true ty).run Tryd.prog wr = _ := fun ty => Lib.run_next_end_at wr w1.heap.size s pos ty hit hp
      have HR := Lib.hid (show decide (0 ≤ (-1 : Int)) = hasB (L s) (L cs) from by
        have h1 := HNO.out
        rw [List.take_of_length_le (by rw [L_len]; omega)] at h1
        have : hasB (L s) (L cs) = false := by unfold hasB; rw [List.any_eq_false]; exact fun b hb => by rw [h1 b hb]; decide
        rw [this]; rfl)
      go_wp2_with fail
      go_ret
      exact ⟨⟨_, rfl, HR.out⟩, hbw⟩
set_option maxRecDepth 20000 in
theorem zset : ∀ w, (zeroValue 121).run Tryd.prog w = .ok (.agg (Array.replicate 256 (.bool false))) w := fun w => by kernel_rfl
set_option maxRecDepth 20000 in
/-- ContainsAny at signs below 128: any text -/
theorem cany_any (s cs : ByteArray) (w : World) (ha : Asc cs) (h2 : 2 ≤ cs.size) (h4 : cs.size ≤ 4) (hs : s.size < 4294967281) :
    Calls Tryd.prog 48 #[.string s, .string cs] w fun e w' => e = .returned (.bool (hasB (L s) (L cs))) ∧ Below w.heap.size w w' := by
  have hia : Calls Tryd.prog 57 #[.string s, .string cs] w fun e w' => (∃ k : Int, e = .returned (.int .i64 k) ∧ decide (0 ≤ k) = hasB (L s) (L cs)) ∧ Below w.heap.size w w' := by
    by_cases h8 : s.size ≤ 8
    · exact iany_short s cs w ha h2 h4 h8
    · refine (Tryd.strings_IndexAny_long zset s cs w h2 (by omega) hs (by omega) (fun j b hj => ha b (List.mem_of_getElem? hj))).mono ?_
      rintro e w' ⟨rfl, rfl⟩
      have b1 := Below.alloc (Below.refl w.heap.size w) (Nat.le_refl _) (.cells (Lib.setCells cs.data.toList) 121)
      exact ⟨⟨_, rfl, has_any _ _⟩, b1.alloc b1.size _⟩
  go_enter Tryd.func48, Tryd.ntmps48
  go_wp2_with fail
  refine hia.mono ?_; rintro e w1 ⟨⟨k, rfl, hk⟩, hb⟩
  have HK := Lib.hid hk; clear hk
  go_wp2_with fail
  go_ret
  exact ⟨by rw [← HK.out]; rfl, hb⟩
end Go.Proofs.YtgflodjohaemiaaDoor.Ky
