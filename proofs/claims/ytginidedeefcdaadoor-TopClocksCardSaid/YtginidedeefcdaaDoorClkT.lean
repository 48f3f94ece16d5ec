/-
  A TIME AS TEXT, WALKED: empty just if it is no time.
-/
import Derived.Test.YtginidedeefcdaaDoorShf
import Derived.Test.YtginidedeefcdaaDoorMom
import Derived.Test.YtginidedeefcdaaDoorOf
import Derived.Lib.ItoaLen
namespace Go.Proofs.YtginidedeefcdaaDoor.Mo
open Go.ChangeShapes Go.WideShapes Go.ChangeAt Go.RowKit
open Go.Proofs.YtginidedeefcdaaDoor
open Go.Proofs.YtginidedeefcdaaDoor.Wd
open Go.Proofs.YtginidedeefcdaaDoor.Ab (byte_info own_lt own_ge conv_row)
open Go.Lib (byteCells)
set_option linter.unusedVariables false
/-- what the text of a time reads: the parts of an hour, and the table of powers -/
structure Pts (w : World) : Prop where
  p0 : w.cell? ⟨1, 0, none⟩ = some (.int .i64 3600)
  p1 : w.cell? ⟨1, 1, none⟩ = some (.int .i64 60)
  p2 : w.cell? ⟨1, 2, none⟩ = some (.int .i64 1)
  tab : Lib.TabIs Tryd.prog w "internal/strconv.uint64pow10" .u64 Lib.pow10Tab
theorem Pts.below {w w' : World} (h : Pts w) (hb : Below w.heap.size w w') : Pts w' :=
  ⟨(hb.cell (World.block_lt_of_cell? w _ h.p0)).trans h.p0, (hb.cell (World.block_lt_of_cell? w _ h.p1)).trans h.p1, (hb.cell (World.block_lt_of_cell? w _ h.p2)).trans h.p2, (Lib.tabBelow_of_tabIs h.tab) _ hb⟩
def isTm (s : Int) : Bool := decide (-604800 ≤ s ∧ s ≤ 604800)
theorem three_cells (z : Int) (h0 : 0 ≤ z) (h : z < 100) : ∃ l : List UInt8, l.length = 3 ∧ [Value.int .u8 58, Value.int .u8 (48 + z / 10), Value.int .u8 (48 + z % 10)] = byteCells l := by
  refine ⟨[58, UInt8.ofNat (48 + z.toNat / 10), UInt8.ofNat (48 + z.toNat % 10)], rfl, ?_⟩
  simp only [byteCells, List.map_cons, List.map_nil, UInt8.toNat_ofNat']
  have e1 : (((48 + z.toNat / 10) % 2 ^ 8 : Nat) : Int) = 48 + z / 10 := by omega
  have e2 : (((48 + z.toNat % 10) % 2 ^ 8 : Nat) : Int) = 48 + z % 10 := by omega
  rw [e1, e2]; rfl
theorem reads_three (w : World) (t : TypeId) (u v x : Value) : Reads (w.alloc (.cells #[u, v, x] t)) (w.heap.size + 1) 1 (some ⟨w.heap.size, 0, none⟩) 3 [u, v, x] :=
  ⟨rfl, fun _ => ⟨_, rfl, Nat.lt_succ_self _, fun j y hx => by
    match j, hx with
    | 0, hx => simp at hx; subst hx; simp [Addr.add]
    | 1, hx => simp at hx; subst hx; simp [Addr.add]
    | 2, hx => simp at hx; subst hx; simp [Addr.add]⟩⟩
theorem int_three (t : IntKind) (a b c : Int) : ∀ u ∈ [Value.int t a, Value.int t b, Value.int t c], u.oneCell' = true := by
  intro u hu; simp at hu; rcases hu with rfl | rfl | rfl <;> rfl
def Told (w : World) (e : Ending) (w' : World) : Prop := ∃ b : ByteArray, 0 < b.size ∧ e = .returned (.string b) ∧ Below w.heap.size w w'
theorem text_no {s : Int} (h : isTm s = false) (w : World) :
    Calls Tryd.prog 31 #[.int .i64 s] w fun e w' => e = .returned (.string ⟨#[]⟩) ∧ w' = w := by
  have ho : Clk.okS s = false := h
  have ht := Clk.time_any s w
  rw [ho] at ht
  clear h ho
  go_enter Tryd.func31, Tryd.ntmps31
  go_wp2_with fail
  refine ht.mono ?_; rintro e w1 ⟨rfl, rfl⟩
  go_wp2_with fail
  go_ret
  exact ⟨rfl, rfl⟩
theorem byteCells_app' (a b : List UInt8) : byteCells (a ++ b) = byteCells a ++ byteCells b := by simp [byteCells]
theorem reads_one (w : World) (t : TypeId) (u : Value) : Reads (w.alloc (.cells #[u] t)) (w.heap.size + 1) 1 (some ⟨w.heap.size, 0, none⟩) 1 [u] :=
  ⟨rfl, fun _ => ⟨_, rfl, Nat.lt_succ_self _, fun j x hx => by
    match j, hx with
    | 0, hx => simp at hx; subst hx; simp [Addr.add]⟩⟩
theorem one_int (t : IntKind) (b : Int) : ∀ u ∈ [Value.int t b], u.oneCell' = true := by intro u hu; simp at hu; subst hu; rfl
theorem dec_pos (u : Nat) : 0 < (Lib.decDigits u).length := by
  unfold Lib.decDigits
  split
  · simp
  · simp
theorem itoa_pos (i : Int) : 0 < (Lib.itoa i).length := by
  unfold Lib.itoa
  split
  · simp
  · exact dec_pos _
set_option maxRecDepth 100000 in
set_option maxHeartbeats 3200000 in
theorem text_pos (s : Int) (w : World) (hP : Pts w) (h0 : 0 ≤ s) (h1 : s ≤ 604800) :
    Calls Tryd.prog 31 #[.int .i64 s] w (Told w) := by
  have ht := Clk.time_any s w
  have ho : Clk.okS s = true := by unfold Clk.okS; simp; omega
  rw [ho] at ht
  clear ho
  have hT := Lib.tabBelow_of_tabIs hP.tab
  have ix0 : ∀ w, (Instr.index 113 (.agg #[.int .i64 3600, .int .i64 60, .int .i64 1]) (.int .i64 0)).run Tryd.prog w = .ok (.int .i64 3600) w := fun _ => by kernel_rfl
  have ix1 : ∀ w, (Instr.index 113 (.agg #[.int .i64 3600, .int .i64 60, .int .i64 1]) (.int .i64 1)).run Tryd.prog w = .ok (.int .i64 60) w := fun _ => by kernel_rfl
  have ix2 : ∀ w, (Instr.index 113 (.agg #[.int .i64 3600, .int .i64 60, .int .i64 1]) (.int .i64 2)).run Tryd.prog w = .ok (.int .i64 1) w := fun _ => by kernel_rfl
  obtain ⟨p0, p1, p2, _⟩ := hP
  have h2 : ¬ s < 0 := by omega
  go_enter Tryd.func31, Tryd.ntmps31
  go_wp2_with fail
  refine ht.mono ?_; rintro e w1 ⟨rfl, rfl⟩
  go_wp2_with fail
  have hown0 := World.ownsRow_nil w w.heap.size 5 1
  have hb0 := Below.refl w.heap.size w
  go_loopw [0, 3, 18] (fun sec v i wr => ∃ (k : Nat) (z : Int) (l : List UInt8), i = .int .i64 k ∧ k ≤ 3 ∧ sec = .int .i64 z ∧ 0 ≤ z ∧ (k = 0 → z ≤ 604800) ∧ (k = 1 → z < 3600) ∧ (k = 2 → z < 60) ∧ l.length ≤ 30 * k + 1 ∧ (1 ≤ k → 0 < l.length) ∧ wr.ownsRow w.heap.size 5 1 v l.length (byteCells l) ∧ Below w.heap.size w wr) (fun _ _ i _ => 3 - (intOf i).toNat)
  case atStart => exact ⟨0, _, [], rfl, by decide, rfl, by omega, (fun _ => by omega), (fun h => by cases h), (fun h => by cases h), by simp, (fun h => by cases h), hown0, hb0⟩
  case round =>
    clear hown0 hb0 ht p0 p1 p2
    obtain ⟨k, z, l, rfl, hk, rfl, hz, hz0, hz1, hz2', hl, hl1, hown, hbw⟩ := hrel
    have hsz := hbw.size
    have hB := hT.on hbw
    have hk3 : k = 0 ∨ k = 1 ∨ k = 2 ∨ k = 3 := by omega
    rcases hk3 with rfl | rfl | rfl | rfl
    · have g0 := hz0 rfl
      clear hz0 hz1 hz2' hl1
      have v1 : 0 ≤ z / 3600 ∧ z / 3600 ≤ 168 := by omega
      have v2 : 0 ≤ z % 3600 ∧ z % 3600 < 3600 := by omega
      go_wp2_with fail
      refine (Tryd.strconv_AppendInt_10 w.heap.size _ (z / 3600) (by omega) (by omega) _ _ _ hown hsz (by omega) hB).mono ?_; rintro e w1 ⟨v1, rfl, hown1, hnx1, -⟩; refine Hid.out ?_
      refine Lib.hid ?_
      have hit := Lib.itoa_length_le (z / 3600) (by omega) (by omega)
      have hip := itoa_pos (z / 3600)
      rw [← byteCells_app', ← List.length_append] at hown1
      have hlen := Lib.hid (show (l ++ Lib.itoa (z / 3600)).length ≤ 30 ∧ 0 < (l ++ Lib.itoa (z / 3600)).length by rw [List.length_append]; omega)
      generalize l ++ Lib.itoa (z / 3600) = l' at *
      clear hit hip hown hB
      go_wp2_with fail
      go_roundw
      case rel => exact ⟨1, _, l', by go_num, by decide, rfl, by omega, (fun h => by cases h), (fun _ => by omega), (fun h => by cases h), by have := hlen.out; omega, fun _ => hlen.out.2, hown1, hbw.trans hnx1⟩
      case measure => simp [intOf]
    · have g0 := hz1 rfl; have g1 := hl1 (by decide)
      clear hz0 hz1 hz2' hl1 hB
      obtain ⟨i0, hi0, hz0, hz1, hz2⟩ := info_parts byte_info
      have v0 : 0 ≤ z / 60 ∧ z / 60 < 60 := by omega
      have v1 : 0 ≤ z / 60 / 10 ∧ z / 60 / 10 ≤ 9 := by omega
      have v2 : 0 ≤ z / 60 % 10 ∧ z / 60 % 10 ≤ 9 := by omega
      have v3 : 0 ≤ z % 60 ∧ z % 60 < 60 := by omega
      go_wp2_with (at_builtin; refine wpList_append_any _ rfl (.tmp 41) (.tmp 50) 112 rfl w.heap.size 5 i0 _ 1 1 Tryd.underlying112 hi0 hz0 hz1 hz2 rfl (by decide) _ l.length _ rfl (hown.alloc _) _ _ 3 3 [.int .u8 58, .int .u8 _, .int .u8 _] rfl (reads_three _ _ _ _ _) (int_three _ _ _ _) (by unfold maxLen; omega) (by omega) (by simp; omega) ?_; intro v1 w1 hown1 hg1 _)
      have hb1 : Below w.heap.size w w1 := (hbw.alloc hbw.size _).grown hg1 (by simp; omega) (fun g hg => own_ge hown g hg)
      obtain ⟨l3, hl3, e3⟩ := three_cells (z / 60) (by omega) (by omega)
      rw [e3, ← byteCells_app'] at hown1
      have hlen := Lib.hid (show (l ++ l3).length = l.length + 3 by rw [List.length_append, hl3])
      have hown2 := Lib.hid (show w1.ownsRow w.heap.size 5 1 v1 (l ++ l3).length (byteCells (l ++ l3)) by rw [hlen.out]; exact hown1)
      clear hg1 hown1 hown
      go_roundw
      case rel => exact ⟨2, _, (l ++ l3), by go_num, by decide, rfl, by omega, (fun h => by cases h), (fun h => by cases h), (fun h => by omega), by have := hlen.out; omega, (fun _ => by have := hlen.out; omega), hown2.out, hb1⟩
      case measure => simp [intOf]
    · have g0 := hz2' rfl; have g1 := hl1 (by decide)
      clear hz0 hz1 hz2' hl1 hB
      by_cases hp : 0 < z
      · obtain ⟨i0, hi0, hz0, hz1, hz2⟩ := info_parts byte_info
        have v1 : 0 ≤ z / 10 ∧ z / 10 ≤ 9 := by omega
        have v2 : 0 ≤ z % 10 ∧ z % 10 ≤ 9 := by omega
        have d1 : z / 1 = z := by omega
        have d2 : z % 1 = 0 := by omega
        go_wp2_with (at_builtin; refine wpList_append_any _ rfl (.tmp 41) (.tmp 50) 112 rfl w.heap.size 5 i0 _ 1 1 Tryd.underlying112 hi0 hz0 hz1 hz2 rfl (by decide) _ l.length _ rfl (hown.alloc _) _ _ 3 3 [.int .u8 58, .int .u8 _, .int .u8 _] rfl (reads_three _ _ _ _ _) (int_three _ _ _ _) (by unfold maxLen; omega) (by omega) (by simp; omega) ?_; intro v1 w1 hown1 hg1 _)
        have hb1 : Below w.heap.size w w1 := (hbw.alloc hbw.size _).grown hg1 (by simp; omega) (fun g hg => own_ge hown g hg)
        obtain ⟨l3, hl3, e3⟩ := three_cells (z) (by omega) (by omega)
        rw [e3, ← byteCells_app'] at hown1
        have hlen := Lib.hid (show (l ++ l3).length = l.length + 3 by rw [List.length_append, hl3])
        have hown2 := Lib.hid (show w1.ownsRow w.heap.size 5 1 v1 (l ++ l3).length (byteCells (l ++ l3)) by rw [hlen.out]; exact hown1)
        clear hg1 hown1 hown
        go_roundw
        case rel => exact ⟨3, _, (l ++ l3), by go_num, by decide, rfl, by omega, (fun h => by cases h), (fun h => by cases h), (fun h => by cases h), by have := hlen.out; omega, (fun _ => by have := hlen.out; omega), hown2.out, hb1⟩
        case measure => simp [intOf]
      · have d0 : z = 0 := by omega
        subst d0
        go_wp2_with fail
        go_roundw
        case rel => exact ⟨3, _, l, by go_num, by decide, rfl, by omega, (fun h => by cases h), (fun h => by cases h), (fun h => by cases h), by omega, (fun _ => by omega), hown, hbw⟩
        case measure => simp [intOf]
    · have g1 := hl1 (by decide)
      have hcv := conv_row hown
      go_wp2_with fail
      go_ret
      exact ⟨⟨l.toArray⟩, g1, rfl, hbw⟩
set_option maxRecDepth 100000 in
set_option maxHeartbeats 3200000 in
theorem text_neg (s : Int) (w : World) (hP : Pts w) (h0 : 0 < s) (h1 : s ≤ 604800) :
    Calls Tryd.prog 31 #[.int .i64 (-s)] w (Told w) := by
  have ht := Clk.time_any (-s) w
  have ho : Clk.okS (-s) = true := by unfold Clk.okS; simp; omega
  rw [ho] at ht
  clear ho
  have hT := Lib.tabBelow_of_tabIs hP.tab
  have ix0 : ∀ w, (Instr.index 113 (.agg #[.int .i64 3600, .int .i64 60, .int .i64 1]) (.int .i64 0)).run Tryd.prog w = .ok (.int .i64 3600) w := fun _ => by kernel_rfl
  have ix1 : ∀ w, (Instr.index 113 (.agg #[.int .i64 3600, .int .i64 60, .int .i64 1]) (.int .i64 1)).run Tryd.prog w = .ok (.int .i64 60) w := fun _ => by kernel_rfl
  have ix2 : ∀ w, (Instr.index 113 (.agg #[.int .i64 3600, .int .i64 60, .int .i64 1]) (.int .i64 2)).run Tryd.prog w = .ok (.int .i64 1) w := fun _ => by kernel_rfl
  have h2 : -s < 0 := by omega
  obtain ⟨i0, hi0, hz0, hz1, hz2⟩ := info_parts byte_info
  have hown00 := (World.ownsRow_nil w w.heap.size 5 1).alloc (.cells #[.int .u8 45] 5)
  go_enter Tryd.func31, Tryd.ntmps31
  go_wp2_with fail
  refine ht.mono ?_; rintro e w1 ⟨rfl, rfl⟩
  go_upto_region 7 with (at_builtin; refine wpList_append_any _ rfl (.tmp 12) (.tmp 13) 112 rfl w.heap.size 5 i0 _ 1 1 Tryd.underlying112 hi0 hz0 hz1 hz2 rfl (by decide) _ 0 _ rfl hown00 _ _ 1 1 [.int .u8 45] rfl (reads_one _ _ _) (one_int _ _) (by unfold maxLen; omega) (by omega) (by simp) ?_; intro v1 w1 hown0 hg1 _)
  have hb0 : Below w.heap.size w w1 := ((Below.refl w.heap.size w).alloc (Nat.le_refl _) _).grown hg1 (by simp) (fun g hg => own_ge hown00 g hg)
  obtain ⟨p0, p1, p2, _⟩ := hP.below hb0
  clear hg1 hown00 hi0 hz0 hz1 hz2 hP
  have hng : - -s = s := by omega
  go_wp2_with fail
  go_loopw [0, 3, 18] (fun sec v i wr => ∃ (k : Nat) (z : Int) (l : List UInt8), i = .int .i64 k ∧ k ≤ 3 ∧ sec = .int .i64 z ∧ 0 ≤ z ∧ (k = 0 → z ≤ 604800) ∧ (k = 1 → z < 3600) ∧ (k = 2 → z < 60) ∧ l.length ≤ 30 * k + 1 ∧ (1 ≤ k → 0 < l.length) ∧ wr.ownsRow w.heap.size 5 1 v l.length (byteCells l) ∧ Below w.heap.size w wr) (fun _ _ i _ => 3 - (intOf i).toNat)
  case atStart => exact ⟨0, _, [45], rfl, by decide, rfl, by omega, (fun _ => by omega), (fun h => by cases h), (fun h => by cases h), by simp, (fun h => by cases h), hown0, hb0⟩
  case round =>
    clear hown0 hb0 ht p0 p1 p2
    obtain ⟨k, z, l, rfl, hk, rfl, hz, hz0, hz1, hz2', hl, hl1, hown, hbw⟩ := hrel
    have hsz := hbw.size
    have hB := hT.on hbw
    have hk3 : k = 0 ∨ k = 1 ∨ k = 2 ∨ k = 3 := by omega
    rcases hk3 with rfl | rfl | rfl | rfl
    · have g0 := hz0 rfl
      clear hz0 hz1 hz2' hl1
      have v1 : 0 ≤ z / 3600 ∧ z / 3600 ≤ 168 := by omega
      have v2 : 0 ≤ z % 3600 ∧ z % 3600 < 3600 := by omega
      go_wp2_with fail
      refine (Tryd.strconv_AppendInt_10 w.heap.size _ (z / 3600) (by omega) (by omega) _ _ _ hown hsz (by omega) hB).mono ?_; rintro e w1 ⟨v1, rfl, hown1, hnx1, -⟩; refine Hid.out ?_
      refine Lib.hid ?_
      have hit := Lib.itoa_length_le (z / 3600) (by omega) (by omega)
      have hip := itoa_pos (z / 3600)
      rw [← byteCells_app', ← List.length_append] at hown1
      have hlen := Lib.hid (show (l ++ Lib.itoa (z / 3600)).length ≤ 30 ∧ 0 < (l ++ Lib.itoa (z / 3600)).length by rw [List.length_append]; omega)
      generalize l ++ Lib.itoa (z / 3600) = l' at *
      clear hit hip hown hB
      go_wp2_with fail
      go_roundw
      case rel => exact ⟨1, _, l', by go_num, by decide, rfl, by omega, (fun h => by cases h), (fun _ => by omega), (fun h => by cases h), by have := hlen.out; omega, fun _ => hlen.out.2, hown1, hbw.trans hnx1⟩
      case measure => simp [intOf]
    · have g0 := hz1 rfl; have g1 := hl1 (by decide)
      clear hz0 hz1 hz2' hl1 hB
      obtain ⟨i0, hi0, hz0, hz1, hz2⟩ := info_parts byte_info
      have v0 : 0 ≤ z / 60 ∧ z / 60 < 60 := by omega
      have v1 : 0 ≤ z / 60 / 10 ∧ z / 60 / 10 ≤ 9 := by omega
      have v2 : 0 ≤ z / 60 % 10 ∧ z / 60 % 10 ≤ 9 := by omega
      have v3 : 0 ≤ z % 60 ∧ z % 60 < 60 := by omega
      go_wp2_with (at_builtin; refine wpList_append_any _ rfl (.tmp 41) (.tmp 50) 112 rfl w.heap.size 5 i0 _ 1 1 Tryd.underlying112 hi0 hz0 hz1 hz2 rfl (by decide) _ l.length _ rfl (hown.alloc _) _ _ 3 3 [.int .u8 58, .int .u8 _, .int .u8 _] rfl (reads_three _ _ _ _ _) (int_three _ _ _ _) (by unfold maxLen; omega) (by omega) (by simp; omega) ?_; intro v1 w1 hown1 hg1 _)
      have hb1 : Below w.heap.size w w1 := (hbw.alloc hbw.size _).grown hg1 (by simp; omega) (fun g hg => own_ge hown g hg)
      obtain ⟨l3, hl3, e3⟩ := three_cells (z / 60) (by omega) (by omega)
      rw [e3, ← byteCells_app'] at hown1
      have hlen := Lib.hid (show (l ++ l3).length = l.length + 3 by rw [List.length_append, hl3])
      have hown2 := Lib.hid (show w1.ownsRow w.heap.size 5 1 v1 (l ++ l3).length (byteCells (l ++ l3)) by rw [hlen.out]; exact hown1)
      clear hg1 hown1 hown
      go_roundw
      case rel => exact ⟨2, _, (l ++ l3), by go_num, by decide, rfl, by omega, (fun h => by cases h), (fun h => by cases h), (fun h => by omega), by have := hlen.out; omega, (fun _ => by have := hlen.out; omega), hown2.out, hb1⟩
      case measure => simp [intOf]
    · have g0 := hz2' rfl; have g1 := hl1 (by decide)
      clear hz0 hz1 hz2' hl1 hB
      by_cases hp : 0 < z
      · obtain ⟨i0, hi0, hz0, hz1, hz2⟩ := info_parts byte_info
        have v1 : 0 ≤ z / 10 ∧ z / 10 ≤ 9 := by omega
        have v2 : 0 ≤ z % 10 ∧ z % 10 ≤ 9 := by omega
        have d1 : z / 1 = z := by omega
        have d2 : z % 1 = 0 := by omega
        go_wp2_with (at_builtin; refine wpList_append_any _ rfl (.tmp 41) (.tmp 50) 112 rfl w.heap.size 5 i0 _ 1 1 Tryd.underlying112 hi0 hz0 hz1 hz2 rfl (by decide) _ l.length _ rfl (hown.alloc _) _ _ 3 3 [.int .u8 58, .int .u8 _, .int .u8 _] rfl (reads_three _ _ _ _ _) (int_three _ _ _ _) (by unfold maxLen; omega) (by omega) (by simp; omega) ?_; intro v1 w1 hown1 hg1 _)
        have hb1 : Below w.heap.size w w1 := (hbw.alloc hbw.size _).grown hg1 (by simp; omega) (fun g hg => own_ge hown g hg)
        obtain ⟨l3, hl3, e3⟩ := three_cells (z) (by omega) (by omega)
        rw [e3, ← byteCells_app'] at hown1
        have hlen := Lib.hid (show (l ++ l3).length = l.length + 3 by rw [List.length_append, hl3])
        have hown2 := Lib.hid (show w1.ownsRow w.heap.size 5 1 v1 (l ++ l3).length (byteCells (l ++ l3)) by rw [hlen.out]; exact hown1)
        clear hg1 hown1 hown
        go_roundw
        case rel => exact ⟨3, _, (l ++ l3), by go_num, by decide, rfl, by omega, (fun h => by cases h), (fun h => by cases h), (fun h => by cases h), by have := hlen.out; omega, (fun _ => by have := hlen.out; omega), hown2.out, hb1⟩
        case measure => simp [intOf]
      · have d0 : z = 0 := by omega
        subst d0
        go_wp2_with fail
        go_roundw
        case rel => exact ⟨3, _, l, by go_num, by decide, rfl, by omega, (fun h => by cases h), (fun h => by cases h), (fun h => by cases h), by omega, (fun _ => by omega), hown, hbw⟩
        case measure => simp [intOf]
    · have g1 := hl1 (by decide)
      have hcv := conv_row hown
      go_wp2_with fail
      go_ret
      exact ⟨⟨l.toArray⟩, g1, rfl, hbw⟩
theorem text_any (s : Int) (w : World) (hP : Pts w) (h : isTm s = true) :
    Calls Tryd.prog 31 #[.int .i64 s] w (Told w) := by
  have h' : -604800 ≤ s ∧ s ≤ 604800 := by simpa [isTm] using h
  by_cases h0 : s < 0
  · obtain ⟨z, rfl⟩ : ∃ z : Int, s = -z := ⟨-s, by omega⟩
    exact text_neg z w hP (by omega) (by omega)
  · exact text_pos s w hP (by omega) h'.2
end Go.Proofs.YtginidedeefcdaaDoor.Mo
