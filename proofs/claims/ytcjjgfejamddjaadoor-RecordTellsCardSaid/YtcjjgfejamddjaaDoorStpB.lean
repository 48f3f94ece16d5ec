/-
  STAMPS AS BYTES, WALKED: stamp.numbers, Bytes and Of.
-/
import Derived.Test.YtcjjgfejamddjaaDoorEnc
import Derived.StillTailTactics
namespace Go.Proofs.YtcjjgfejamddjaaDoor.Stp
open Go.ChangeShapes Go.WideShapes Go.ChangeAt Go.RowKit
open Go.Proofs.YtcjjgfejamddjaaDoor
open Go.Proofs.YtcjjgfejamddjaaDoor.Wd
open Go.Proofs.YtcjjgfejamddjaaDoor.Lit
set_option linter.unusedVariables false
abbrev ptrs (g : Nat) : Value := .agg #[.pointer (some ⟨g, 0, none⟩), .pointer (some ⟨g, 1, none⟩), .pointer (some ⟨g, 2, none⟩), .pointer (some ⟨g, 3, none⟩), .pointer (some ⟨g, 4, none⟩), .pointer (some ⟨g, 5, none⟩), .pointer (some ⟨g, 6, none⟩), .pointer (some ⟨g, 7, none⟩)]
set_option maxRecDepth 20000 in
set_option maxHeartbeats 1600000 in
theorem nums_any (g : Nat) (w : World) :
    Calls Tryd.prog 56 #[.pointer (some ⟨g, 0, none⟩)] w fun e w' => e = .returned (ptrs g) ∧ Below w.heap.size w w' := by
  go_enter Tryd.func56, Tryd.ntmps56
  go_wp2
  go_still_tail 25, (by kernel_rfl)
  repeat still_step
  change wpList _ _ _ _ _ (World.drew (w.alloc _))
  go_wp2
  exact bodyPost_ret (v := ptrs g) (by simp [results, Tryd.results56, go_sem]) rfl ⟨rfl, by
    repeat' (first | exact Below.refl _ _ | refine Below.setCell (p := ⟨_, _, none⟩) ?_ ?_ _ | refine Below.drew ?_ | refine Below.alloc ?_ ?_ _)
    all_goals exact Nat.le_refl _⟩
theorem idx_0 (g : Nat) (w : World) : (Instr.index 85 (ptrs g) (.int .i64 0)).run Tryd.prog w = .ok (.pointer (some ⟨g, 0, none⟩)) w := by kernel_rfl
theorem idx_1 (g : Nat) (w : World) : (Instr.index 85 (ptrs g) (.int .i64 1)).run Tryd.prog w = .ok (.pointer (some ⟨g, 1, none⟩)) w := by kernel_rfl
theorem idx_2 (g : Nat) (w : World) : (Instr.index 85 (ptrs g) (.int .i64 2)).run Tryd.prog w = .ok (.pointer (some ⟨g, 2, none⟩)) w := by kernel_rfl
theorem idx_3 (g : Nat) (w : World) : (Instr.index 85 (ptrs g) (.int .i64 3)).run Tryd.prog w = .ok (.pointer (some ⟨g, 3, none⟩)) w := by kernel_rfl
theorem idx_4 (g : Nat) (w : World) : (Instr.index 85 (ptrs g) (.int .i64 4)).run Tryd.prog w = .ok (.pointer (some ⟨g, 4, none⟩)) w := by kernel_rfl
theorem idx_5 (g : Nat) (w : World) : (Instr.index 85 (ptrs g) (.int .i64 5)).run Tryd.prog w = .ok (.pointer (some ⟨g, 5, none⟩)) w := by kernel_rfl
theorem idx_6 (g : Nat) (w : World) : (Instr.index 85 (ptrs g) (.int .i64 6)).run Tryd.prog w = .ok (.pointer (some ⟨g, 6, none⟩)) w := by kernel_rfl
theorem idx_7 (g : Nat) (w : World) : (Instr.index 85 (ptrs g) (.int .i64 7)).run Tryd.prog w = .ok (.pointer (some ⟨g, 7, none⟩)) w := by kernel_rfl
theorem idx_at (g k : Nat) (z : Int) (hz : z = (k : Int)) (hk : k < 8) (w : World) : (Instr.index 85 (ptrs g) (.int .i64 z)).run Tryd.prog w = .ok (.pointer (some ⟨g, k, none⟩)) w := by
  have hk8 : k = 0 ∨ k = 1 ∨ k = 2 ∨ k = 3 ∨ k = 4 ∨ k = 5 ∨ k = 6 ∨ k = 7 := by omega
  rcases hk8 with rfl | rfl | rfl | rfl | rfl | rfl | rfl | rfl
  · obtain rfl : z = 0 := by omega
    exact idx_0 g w
  · obtain rfl : z = 1 := by omega
    exact idx_1 g w
  · obtain rfl : z = 2 := by omega
    exact idx_2 g w
  · obtain rfl : z = 3 := by omega
    exact idx_3 g w
  · obtain rfl : z = 4 := by omega
    exact idx_4 g w
  · obtain rfl : z = 5 := by omega
    exact idx_5 g w
  · obtain rfl : z = 6 := by omega
    exact idx_6 g w
  · obtain rfl : z = 7 := by omega
    exact idx_7 g w
abbrev stN (y m v d h i s u : Nat) : Value := .agg #[.int .u16 y, .int .u16 m, .int .u16 v, .int .u16 d, .int .u16 h, .int .u16 i, .int .u16 s, .int .u16 u]
abbrev stL (y m v d h i s u : Nat) : List Nat := [y, m, v, d, h, i, s, u]
theorem wrap_u64' {z : Nat} (h : z ≤ 65535) : IntKind.u64.wrap (z : Int) = (z : Int) := by rw [IntKind.wrap_u64]; omega
set_option maxRecDepth 20000 in
set_option maxHeartbeats 6400000 in
theorem bytes_any (y m v d h i s u : Nat) (w : World) (B : ∀ z ∈ stL y m v d h i s u, z ≤ 65535) :
    Calls Tryd.prog 21 #[stN y m v d h i s u] w fun e w' => e = .returned (.string ⟨(encN 2 (stL y m v d h i s u)).toArray⟩) ∧ Below w.heap.size w w' := by
  have hb0 : Below w.heap.size w (w.alloc (.cells #[.int .u16 (y : Int), .int .u16 (m : Int), .int .u16 (v : Int), .int .u16 (d : Int), .int .u16 (h : Int), .int .u16 (i : Int), .int .u16 (s : Int), .int .u16 (u : Int)] 41)) := (Below.refl _ _).alloc (Nat.le_refl _) _
  go_enter Tryd.func21, Tryd.ntmps21
  go_wp2_with fail
  refine (nums_any _ _).mono ?_; rintro e w1 ⟨rfl, hb1⟩
  have hx0 : Blk w1 w.heap.size 41 #[.int .u16 (y : Int), .int .u16 (m : Int), .int .u16 (v : Int), .int .u16 (d : Int), .int .u16 (h : Int), .int .u16 (i : Int), .int .u16 (s : Int), .int .u16 (u : Int)] := ((Blk.new w _ _).alloc _).below hb1 (by simp; omega)
  have hw0 : Wr w1 (w.heap.size + 1) [] := by
    have := Wr.new (w.alloc (.cells #[.int .u16 (y : Int), .int .u16 (m : Int), .int .u16 (v : Int), .int .u16 (d : Int), .int .u16 (h : Int), .int .u16 (i : Int), .int .u16 (s : Int), .int .u16 (u : Int)] 41))
    have h2 := this.bel hb1
    simpa using h2
  have hbw0 : Below w.heap.size w w1 := (hb0.alloc hb0.size _).trans (hb1.mono (by simp; omega))
  clear hb1
  go_wp2_with fail
  go_loopw [5, 7] (fun _ ii w' => ∃ k : Nat, ii = .int .i64 k ∧ k ≤ 8 ∧ Wr w' (w.heap.size + 1) (encN 2 ((stL y m v d h i s u).take k)) ∧ Below (w.heap.size + 1) w1 w') (fun _ ii _ => 8 - (intOf ii).toNat)
  case atStart => exact ⟨0, rfl, Nat.zero_le _, by simpa [encN] using hw0, Below.refl _ _⟩
  case round =>
    obtain ⟨k, rfl, hk, hw, hbw⟩ := hrel
    have hx := hx0.below hbw (Nat.lt_succ_self _)
    have hbsz := hbw.size
    have hgl := hw.lt
    by_cases hlt : k < 8
    · have hlt' : (k : Int) < 8 := by omega
      have hT := Lib.hid (encN_take (N := 2) (l := stL y m v d h i s u) (k := k) hlt)
      have hz := B _ (List.getElem_mem (l := stL y m v d h i s u) (n := k) hlt)
      have hel : (encN 2 ((stL y m v d h i s u).take k)).length ≤ 1000 := by rw [encN_len, List.length_take]; omega
      have hc := hx.cell k
      generalize hzz : (stL y m v d h i s u)[k] = z at *
      have hc2 : wr.cell? ⟨w.heap.size, k, none⟩ = some (.int .u16 (z : Int)) := by
        rw [hc, ← hzz]
        have hk8 : k = 0 ∨ k = 1 ∨ k = 2 ∨ k = 3 ∨ k = 4 ∨ k = 5 ∨ k = 6 ∨ k = 7 := by omega
        rcases hk8 with rfl | rfl | rfl | rfl | rfl | rfl | rfl | rfl <;> rfl
      have hpt := idx_at w.heap.size k _ rfl hlt
      have hzw := wrap_u64' hz
      clear hc hzz
      go_wp2_with (go_at_call 58; refine (put_any (w.heap.size + 1) _ 2 z _ hw (by omega) (by omega)).mono ?_; rintro e w2 ⟨rfl, hb2, hw2⟩)
      go_roundw
      case rel => exact ⟨k + 1, by go_num, by omega, by rw [hT.out]; exact hw2, hbw.trans hb2⟩
      case measure => simp [intOf]; omega
    · obtain rfl : k = 8 := by omega
      go_wp2_with (go_at_call 59; refine (out_any _ _ _ hw).mono ?_; rintro e w2 ⟨rfl, rfl⟩)
      go_ret
      exact ⟨rfl, hbw0.trans (hbw.mono (Nat.le_succ _))⟩
/-- the number at a place of a stamp's bytes -/
def ofV (b : ByteArray) (k : Nat) : Nat := leN (((LB b).drop (2 * k)).take 2)
def ofC (b : ByteArray) (k : Nat) : Array Value := ((List.range 8).map fun j => Value.int .u16 (if j < k then (ofV b j : Int) else 0)).toArray
theorem ofV_lt (b : ByteArray) (k : Nat) : ofV b k ≤ 65535 := by
  unfold ofV
  have h := leN_lt (((LB b).drop (2 * k)).take 2)
  have hl : (((LB b).drop (2 * k)).take 2).length ≤ 2 := by rw [List.length_take]; omega
  have := Nat.pow_le_pow_right (show 0 < 256 by decide) hl
  omega
theorem ofC_at (b : ByteArray) {k : Nat} (h : k < 8) : (ofC b k)[k]? = some (.int .u16 0) := by
  unfold ofC; simp [h]
theorem ofC_set (b : ByteArray) {k : Nat} (h : k < 8) : (ofC b k).setIfInBounds k (.int .u16 (ofV b k : Int)) = ofC b (k + 1) := by
  apply Array.ext
  · simp [ofC]
  · intro j h1 h2
    rw [Array.getElem_setIfInBounds (by simpa using h1)]
    split
    · subst_vars; simp [ofC]
    · simp only [ofC, List.getElem_toArray, List.getElem_map, List.getElem_range]
      congr 1
      by_cases hj : j < k
      · rw [if_pos hj, if_pos (by omega)]
      · rw [if_neg hj, if_neg (by omega)]
theorem ofC_all (b : ByteArray) : ofC b 8 = #[.int .u16 (ofV b 0), .int .u16 (ofV b 1), .int .u16 (ofV b 2), .int .u16 (ofV b 3), .int .u16 (ofV b 4), .int .u16 (ofV b 5), .int .u16 (ofV b 6), .int .u16 (ofV b 7)] := rfl
theorem ofC_0 (b : ByteArray) : ofC b 0 = #[.int .u16 0, .int .u16 0, .int .u16 0, .int .u16 0, .int .u16 0, .int .u16 0, .int .u16 0, .int .u16 0] := rfl
theorem wrap_u16' {z : Nat} (h : z ≤ 65535) : IntKind.u16.wrap (z : Int) = (z : Int) := by simp [IntKind.wrap, IntKind.bits, IntKind.signed]; omega
set_option maxRecDepth 20000 in
set_option maxHeartbeats 3200000 in
theorem of_short (b : ByteArray) (w : World) (hb : b.size ≠ 16) :
    Calls Tryd.prog 20 #[.string b] w fun e w' => e = .returned (.tuple #[stN 0 0 0 0 0 0 0 0, .int .i64 11]) ∧ Below w.heap.size w w' := by
  have hb' : ((b.size : Int) != 16) = true := by simp; omega
  clear hb
  go_enter Tryd.func20, Tryd.ntmps20
  go_wp2
  exact bodyPost_ret (v := .tuple #[stN 0 0 0 0 0 0 0 0, .int .i64 11]) (by simp [results, Tryd.results20, go_sem]) rfl ⟨rfl, by
    repeat' (first | exact Below.refl _ _ | refine Below.setCell (p := ⟨_, _, none⟩) ?_ ?_ _ | refine Below.drew ?_ | refine Below.alloc ?_ ?_ _)
    all_goals exact Nat.le_refl _⟩
set_option maxRecDepth 20000 in
set_option maxHeartbeats 6400000 in
theorem of_full (b : ByteArray) (w : World) (hb : b.size = 16) :
    Calls Tryd.prog 20 #[.string b] w fun e w' => e = .returned (.tuple #[stN (ofV b 0) (ofV b 1) (ofV b 2) (ofV b 3) (ofV b 4) (ofV b 5) (ofV b 6) (ofV b 7), .int .i64 0]) ∧ Below w.heap.size w w' := by
  have hb' : ((b.size : Int) != 16) = false := by simp; omega
  have HB := Lib.hid hb; clear hb
  go_enter Tryd.func20, Tryd.ntmps20
  go_wp2_with fail
  refine (open_any _ _).mono ?_; rintro e w1 ⟨rfl, hw1⟩
  have hz1 : w1.heap.size = w.heap.size + 2 := by rw [hw1]; simp
  have hr1 : Rd w1 (w.heap.size + 1) b false := by rw [hw1]; simpa using Blk.new (w.alloc (.cells #[.int .u16 0, .int .u16 0, .int .u16 0, .int .u16 0, .int .u16 0, .int .u16 0, .int .u16 0, .int .u16 0] 41)) 126 #[.string b, .bool false]
  have hx1 : Blk w1 w.heap.size 41 (ofC b 0) := by rw [hw1]; exact (Blk.new w _ _).alloc _
  have hb1 : Below w.heap.size w w1 := by rw [hw1]; exact ((Below.refl _ _).alloc (Nat.le_refl _) _).alloc (by simp) _
  clear hw1
  go_wp2_with fail
  refine (nums_any _ _).mono ?_; rintro e w2 ⟨rfl, hb2⟩
  have hy2 : Blk w2 (w.heap.size + 2) 41 (ofC b 0) := by
    have := Blk.new w1 41 (ofC b 0)
    rw [hz1] at this
    exact this.below hb2 (by simp [hz1])
  have hr2 : Rd w2 (w.heap.size + 1) b false := (hr1.alloc _).below hb2 (by simp [hz1])
  have hx2 : Blk w2 w.heap.size 41 (ofC b 0) := (hx1.alloc _).below hb2 (by simp [hz1]; omega)
  have hbw2 : Below w.heap.size w w2 := (hb1.alloc (by omega) _).trans (hb2.mono (by simp [hz1]; omega))
  clear hb2 hb1 hr1 hx1
  clear hz1
  go_wp2_with fail
  go_loopw [7, 15] (fun _ ii w' => ∃ (k : Nat) (x : ByteArray), ii = .int .i64 k ∧ k ≤ 8 ∧ Rd w' (w.heap.size + 1) x false ∧ LB x = (LB b).drop (2 * k) ∧ Blk w' (w.heap.size + 2) 41 (ofC b k) ∧ Blk w' w.heap.size 41 (ofC b 0) ∧ Below w.heap.size w w') (fun _ ii _ => 8 - (intOf ii).toNat)
  case atStart => exact ⟨0, b, rfl, Nat.zero_le _, hr2, by simp, hy2, hx2, hbw2⟩
  case round =>
    obtain ⟨k, x, rfl, hk, hr, hx, hy, hx0, hbw⟩ := hrel
    by_cases hlt : k < 8
    · have hlt' : (k : Int) < 8 := by omega
      have hpt := idx_at (w.heap.size + 2) k _ rfl hlt
      have hsp : LB x = ((LB b).drop (2 * k)).take 2 ++ (LB b).drop (2 * (k + 1)) := by
        rw [hx, show 2 * (k + 1) = 2 * k + 2 by omega, ← List.drop_drop, List.take_append_drop]
      have hl2 : ((((LB b).drop (2 * k)).take 2).length : Int) = 2 := by
        rw [List.length_take, List.length_drop, LB_len, HB.out]; omega
      obtain ⟨t1, t2, t3⟩ := gd_next (n := 2) hsp hl2 (by omega) (by omega)
      have hxs : x.size ≤ 9223372036854775807 := by rw [← LB_len, hx, List.length_drop, LB_len, HB.out]; omega
      have t3 : getV x false 2 = ofV b k := t3
      have hvl := ofV_lt b k
      have hw16 := wrap_u16' hvl
      have HT2 := Lib.hid t2
      have hSet := Lib.hid (ofC_set b hlt)
      have hAt := ofC_at b hlt
      clear hx hsp hl2 t2
      go_wp2_with (go_at_call 57; refine (Lit.get_any (w.heap.size + 1) x false 2 _ hr hxs).mono ?_; rintro e w3 ⟨rfl, hr3, hg3⟩; rw [t3]; rw [t1] at hr3; have hy3 := hy.grown hg3 (by intro e; injection e with e; omega); have hx3 := hx0.grown hg3 (by intro e; injection e with e; omega); have c3 := (hy3.cell k).trans hAt; have f3 := hy3.frozen k; have l3 := hy3.lt)
      have B3 : Below w.heap.size w w3 := hbw.grown hg3 hbw.size (fun q hq => by injection hq with hq; omega)
      go_roundw
      case rel => exact ⟨k + 1, _, by go_num, by omega, hr3.far (p := ⟨w.heap.size + 2, k, none⟩) (by simp) _, HT2.out, by rw [← hSet.out]; exact hy3.set_ k _, hx3.far (p := ⟨w.heap.size + 2, k, none⟩) (by simp) _, B3.setCell (p := ⟨w.heap.size + 2, k, none⟩) (by simp) _⟩
      case measure => simp [intOf]; omega
    · obtain rfl : k = 8 := by omega
      rw [ofC_all] at hy
      rw [ofC_0] at hx0
      have c0 := hy.cell 0
      have d0 := hx0.cell 0
      have f0 := hx0.frozen 0
      have c1 := hy.cell 1
      have d1 := hx0.cell 1
      have f1 := hx0.frozen 1
      have c2 := hy.cell 2
      have d2 := hx0.cell 2
      have f2 := hx0.frozen 2
      have c3 := hy.cell 3
      have d3 := hx0.cell 3
      have f3 := hx0.frozen 3
      have c4 := hy.cell 4
      have d4 := hx0.cell 4
      have f4 := hx0.frozen 4
      have c5 := hy.cell 5
      have d5 := hx0.cell 5
      have f5 := hx0.frozen 5
      have c6 := hy.cell 6
      have d6 := hx0.cell 6
      have f6 := hx0.frozen 6
      have c7 := hy.cell 7
      have d7 := hx0.cell 7
      have f7 := hx0.frozen 7
      simp at c0 c1 c2 c3 c4 c5 c6 c7 d0 d1 d2 d3 d4 d5 d6 d7
      have l1 := hx0.lt
      have l2 := hy.lt
      clear hr hx
      go_wp2_with fail
      have hF := ((((((((hx0.set_ 0 (.int .u16 (ofV b 0 : Int))).set_ 1 (.int .u16 (ofV b 1 : Int))).set_ 2 (.int .u16 (ofV b 2 : Int))).set_ 3 (.int .u16 (ofV b 3 : Int))).set_ 4 (.int .u16 (ofV b 4 : Int))).set_ 5 (.int .u16 (ofV b 5 : Int))).set_ 6 (.int .u16 (ofV b 6 : Int))).set_ 7 (.int .u16 (ofV b 7 : Int)))
      have hBel := ((((((((hbw.setCell (p := ⟨w.heap.size, 0, none⟩) (Nat.le_refl _) (.int .u16 (ofV b 0 : Int))).setCell (p := ⟨w.heap.size, 1, none⟩) (Nat.le_refl _) (.int .u16 (ofV b 1 : Int))).setCell (p := ⟨w.heap.size, 2, none⟩) (Nat.le_refl _) (.int .u16 (ofV b 2 : Int))).setCell (p := ⟨w.heap.size, 3, none⟩) (Nat.le_refl _) (.int .u16 (ofV b 3 : Int))).setCell (p := ⟨w.heap.size, 4, none⟩) (Nat.le_refl _) (.int .u16 (ofV b 4 : Int))).setCell (p := ⟨w.heap.size, 5, none⟩) (Nat.le_refl _) (.int .u16 (ofV b 5 : Int))).setCell (p := ⟨w.heap.size, 6, none⟩) (Nat.le_refl _) (.int .u16 (ofV b 6 : Int))).setCell (p := ⟨w.heap.size, 7, none⟩) (Nat.le_refl _) (.int .u16 (ofV b 7 : Int)))
      clear hx0 hy hbw d0 d1 d2 d3 d4 d5 d6 d7 c0 c1 c2 c3 c4 c5 c6 c7 f0 f1 f2 f3 f4 f5 f6 f7
      generalize ((((((((wr.setCell ⟨w.heap.size, 0, none⟩ (.int .u16 (ofV b 0 : Int))).setCell ⟨w.heap.size, 1, none⟩ (.int .u16 (ofV b 1 : Int))).setCell ⟨w.heap.size, 2, none⟩ (.int .u16 (ofV b 2 : Int))).setCell ⟨w.heap.size, 3, none⟩ (.int .u16 (ofV b 3 : Int))).setCell ⟨w.heap.size, 4, none⟩ (.int .u16 (ofV b 4 : Int))).setCell ⟨w.heap.size, 5, none⟩ (.int .u16 (ofV b 5 : Int))).setCell ⟨w.heap.size, 6, none⟩ (.int .u16 (ofV b 6 : Int))).setCell ⟨w.heap.size, 7, none⟩ (.int .u16 (ofV b 7 : Int))) = W8 at hF hBel ⊢
      simp at hF
      have q0 := hF.cell 0
      have q1 := hF.cell 1
      have q2 := hF.cell 2
      have q3 := hF.cell 3
      have q4 := hF.cell 4
      have q5 := hF.cell 5
      have q6 := hF.cell 6
      have q7 := hF.cell 7
      simp at q0 q1 q2 q3 q4 q5 q6 q7
      exact bodyPost_ret (v := .tuple #[stN (ofV b 0) (ofV b 1) (ofV b 2) (ofV b 3) (ofV b 4) (ofV b 5) (ofV b 6) (ofV b 7), .int .i64 0]) (by simp [results, Tryd.results20, go_sem, q0, q1, q2, q3, q4, q5, q6, q7]) rfl ⟨rfl, hBel⟩
theorem of_any (b : ByteArray) (w : World) :
    Calls Tryd.prog 20 #[.string b] w fun e w' => e = .returned (.tuple #[(if b.size = 16 then stN (ofV b 0) (ofV b 1) (ofV b 2) (ofV b 3) (ofV b 4) (ofV b 5) (ofV b 6) (ofV b 7) else stN 0 0 0 0 0 0 0 0), .int .i64 (if b.size = 16 then 0 else 11)]) ∧ Below w.heap.size w w' := by
  by_cases hb : b.size = 16
  · rw [if_pos hb, if_pos hb]; exact of_full b w hb
  · rw [if_neg hb, if_neg hb]; exact of_short b w hb
/-- a stamp is had of its bytes -/
theorem ofV_enc (l : List Nat) (h : ∀ z ∈ l, z ≤ 65535) {k : Nat} (hk : k < l.length) : ofV ⟨(encN 2 l).toArray⟩ k = l[k] := by
  unfold ofV
  have e : (LB ⟨(encN 2 l).toArray⟩).drop (2 * k) = encN 2 (l.drop k) := by
    show (encN 2 l).drop (2 * k) = _
    conv => lhs; rw [← List.take_append_drop k l]
    have ha : encN 2 (l.take k ++ l.drop k) = encN 2 (l.take k) ++ encN 2 (l.drop k) := by
      show (l.take k ++ l.drop k).flatMap _ = _
      rw [List.flatMap_append]; rfl
    rw [ha, List.drop_append_of_le_length (by rw [encN_len, List.length_take]; omega)]
    have hz : (encN 2 (l.take k)).drop (2 * k) = [] := List.drop_eq_nil_of_le (by rw [encN_len, List.length_take]; omega)
    rw [hz]; rfl
  rw [e, encN_drop hk, List.take_append_of_le_length (by rw [putN_len]; omega), List.take_of_length_le (by rw [putN_len]; omega), leN_put]
  have := h _ (List.getElem_mem hk)
  omega
end Go.Proofs.YtcjjgfejamddjaaDoor.Stp
