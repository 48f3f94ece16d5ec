/-
  RECORDS AS BYTES: record.Bytes, walked.
-/
import Derived.Test.YtcjjgfejamddjaaDoorRecC
namespace Go.Proofs.YtcjjgfejamddjaaDoor.Rec
open Go.ChangeShapes Go.WideShapes Go.ChangeAt Go.RowKit
open Go.Proofs.YtcjjgfejamddjaaDoor
open Go.Proofs.YtcjjgfejamddjaaDoor.Wd
open Go.Proofs.YtcjjgfejamddjaaDoor.Lit
open Go.Proofs.YtcjjgfejamddjaaDoor.Stp (stV Bd chkS zeroS okS)
set_option linter.unusedVariables false
def St.ns (x : St) : List Nat := Stp.stL x.y.toNat x.m.toNat x.v.toNat x.d.toNat x.h.toNat x.i.toNat x.s.toNat x.u.toNat
theorem St.ns_len (x : St) : x.ns.length = 8 := rfl
def u4 (b : Int) : Nat := (b % 4294967296).toNat
def rcB (b c d : Int) (p q : St) : List UInt8 := encN 4 [u4 b, u4 c, u4 d] ++ encN 2 p.ns ++ encN 2 q.ns
theorem u4_lt (b : Int) : u4 b < 4294967296 := by unfold u4; omega
theorem wrap_u4 (b : Int) : b % 4294967296 = (u4 b : Int) := by
  unfold u4; omega
theorem bytes_st (x : St) (w : World) (B : x.Bd) :
    Calls Tryd.prog 21 #[x.val] w fun e w' => e = .returned (.string ⟨(encN 2 x.ns).toArray⟩) ∧ Below w.heap.size w w' := by
  obtain ⟨y, m, v, d, h, i, s, u⟩ := x
  obtain ⟨⟨a1, a2⟩, ⟨b1, b2⟩, ⟨c1, c2⟩, ⟨d1, d2⟩, ⟨e1, e2⟩, ⟨f1, f2⟩, ⟨g1, g2⟩, ⟨h1, h2⟩⟩ := B
  dsimp only at *
  obtain ⟨y, rfl⟩ := Int.eq_ofNat_of_zero_le a1
  obtain ⟨m, rfl⟩ := Int.eq_ofNat_of_zero_le b1
  obtain ⟨v, rfl⟩ := Int.eq_ofNat_of_zero_le c1
  obtain ⟨d, rfl⟩ := Int.eq_ofNat_of_zero_le d1
  obtain ⟨h, rfl⟩ := Int.eq_ofNat_of_zero_le e1
  obtain ⟨i, rfl⟩ := Int.eq_ofNat_of_zero_le f1
  obtain ⟨s, rfl⟩ := Int.eq_ofNat_of_zero_le g1
  obtain ⟨u, rfl⟩ := Int.eq_ofNat_of_zero_le h1
  exact Stp.bytes_any y m v d h i s u w (by intro z hz; simp at hz; omega)
theorem len_ok {a b : List UInt8} (h : a.length ≤ 100) (h' : b.length ≤ 100) : a.length + (⟨b.toArray⟩ : ByteArray).size ≤ 10000000 := by
  show a.length + b.toArray.size ≤ _
  simp; omega
abbrev nums3 (b c d : Int) : Value := .agg #[.int .i32 b, .int .i32 c, .int .i32 d]
theorem ix_0 (b c d : Int) (w : World) : (Instr.index 109 (nums3 b c d) (.int .i64 0)).run Tryd.prog w = .ok (.int .i32 b) w := by kernel_rfl
theorem ix_1 (b c d : Int) (w : World) : (Instr.index 109 (nums3 b c d) (.int .i64 1)).run Tryd.prog w = .ok (.int .i32 c) w := by kernel_rfl
theorem ix_2 (b c d : Int) (w : World) : (Instr.index 109 (nums3 b c d) (.int .i64 2)).run Tryd.prog w = .ok (.int .i32 d) w := by kernel_rfl
theorem ix_at (b c d : Int) (k : Nat) (hk : k < 3) (w : World) : ∃ z, (∀ w, (Instr.index 109 (nums3 b c d) (.int .i64 (k : Int))).run Tryd.prog w = .ok (.int .i32 z) w) ∧ encN 4 ([u4 b, u4 c, u4 d].take (k + 1)) = encN 4 ([u4 b, u4 c, u4 d].take k) ++ putL 4 (u4 z) := by
  have hk8 : k = 0 ∨ k = 1 ∨ k = 2 := by omega
  rcases hk8 with rfl | rfl | rfl
  · exact ⟨b, ix_0 b c d, encN_take (N := 4) (l := [u4 b, u4 c, u4 d]) (k := 0) (by simp)⟩
  · exact ⟨c, ix_1 b c d, encN_take (N := 4) (l := [u4 b, u4 c, u4 d]) (k := 1) (by simp)⟩
  · exact ⟨d, ix_2 b c d, encN_take (N := 4) (l := [u4 b, u4 c, u4 d]) (k := 2) (by simp)⟩
set_option maxRecDepth 20000 in
set_option maxHeartbeats 6400000 in
theorem bytes_any (b c d : Int) (p q : St) (w : World) (B : RBd b c d p q) :
    Calls Tryd.prog 38 #[rcV b c d p q] w fun e w' => e = .returned (.string ⟨(rcB b c d p q).toArray⟩) ∧ Below w.heap.size w w' := by
  have hb0 : Below w.heap.size w (w.alloc (.cells (rcA b c d p q) 53)) := (Below.refl _ _).alloc (Nat.le_refl _) _
  have x0 := Blk.new w 53 (rcA b c d p q)
  have hw0 := Wr.new (w.alloc (.cells (rcA b c d p q) 53))
  have hx1 := x0.alloc (.cells #[.pointer none, .slice none 0 0] 93)
  have hb1 := hb0.alloc hb0.size (.cells #[.pointer none, .slice none 0 0] 93)
  unfold rcA at hb0 x0 hw0 hx1 hb1
  go_enter Tryd.func38, Tryd.ntmps38
  go_wp2_with fail
  generalize hW : ((w.alloc (.cells #[.int .i32 b, .int .i32 c, .int .i32 d, .int .u16 p.y, .int .u16 p.m, .int .u16 p.v, .int .u16 p.d, .int .u16 p.h, .int .u16 p.i, .int .u16 p.s, .int .u16 p.u, .int .u16 q.y, .int .u16 q.m, .int .u16 q.v, .int .u16 q.d, .int .u16 q.h, .int .u16 q.i, .int .u16 q.s, .int .u16 q.u] 53)).alloc (.cells #[.pointer none, .slice none 0 0] 93)) = w1 at *
  have hw1 : Wr w1 (w.heap.size + 1) [] := by simpa using hw0
  clear hw0 hW hb0 x0
  go_loopw [5, 13] (fun _ ii w' => ∃ k : Nat, ii = .int .i64 k ∧ k ≤ 3 ∧ Wr w' (w.heap.size + 1) (encN 4 ([u4 b, u4 c, u4 d].take k)) ∧ Below (w.heap.size + 1) w1 w') (fun _ ii _ => 3 - (intOf ii).toNat)
  case atStart => exact ⟨0, rfl, Nat.zero_le _, by simpa [encN] using hw1, Below.refl _ _⟩
  case round =>
    obtain ⟨k, rfl, hk, hw, hbw⟩ := hrel
    by_cases hlt : k < 3
    · have hlt' : (k : Int) < 3 := by omega
      obtain ⟨z, hpt, hT⟩ := ix_at b c d k hlt wr
      have HT := Lib.hid hT; clear hT
      have hel : (encN 4 ([u4 b, u4 c, u4 d].take k)).length ≤ 1000 := by rw [encN_len, List.length_take]; omega
      have hzw := wrap_u4 z
      have hzl := u4_lt z
      clear hx1 hb1
      go_wp2_with (go_at_call 58; rw [hzw]; refine (put_any (w.heap.size + 1) _ 4 (u4 z) _ hw (by omega) (by omega)).mono ?_; rintro e w2 ⟨rfl, hb2, hw2⟩)
      go_roundw
      case rel => exact ⟨k + 1, by go_num, by omega, by rw [HT.out]; exact hw2, hbw.trans hb2⟩
      case measure => simp [intOf]; omega
    · obtain rfl : k = 3 := by omega
      have hx := hx1.below hbw (Nat.lt_succ_self _)
      have hB := hb1.trans (hbw.mono (Nat.le_succ _))
      rw [List.take_of_length_le (by simp)] at hw
      have e4 : (encN 4 [u4 b, u4 c, u4 d]).length = 12 := by rw [encN_len]; rfl
      have ep : (encN 2 p.ns).length = 16 := by rw [encN_len]; rfl
      have eq : (encN 2 q.ns).length = 16 := by rw [encN_len]; rfl
      clear hx1 hb1 hbw
      have c3 := hx.cell 3
      have c4 := hx.cell 4
      have c5 := hx.cell 5
      have c6 := hx.cell 6
      have c7 := hx.cell 7
      have c8 := hx.cell 8
      have c9 := hx.cell 9
      have c10 := hx.cell 10
      simp at c3 c4 c5 c6 c7 c8 c9 c10
      go_wp2_with fail
      refine (bytes_st p _ B.p).mono ?_; rintro e w2 ⟨rfl, hb2⟩
      have hx2 := hx.below hb2 hx.lt
      have hw2 := hw.bel hb2
      have hB2 := hB.trans (hb2.mono hB.size)
      clear hx hw hB hb2 c3 c4 c5 c6 c7 c8 c9 c10
      go_wp2_with fail
      refine (raw_any _ _ _ _ hw2 (len_ok (by rw [e4]; decide) (by rw [ep]; decide))).mono ?_; rintro e w3 ⟨rfl, hb3, hw3⟩
      have hx3 := hx2.below hb3 (Nat.lt_succ_self _)
      have hB3 := hB2.trans (hb3.mono (Nat.le_succ _))
      clear hx2 hw2 hB2 hb3
      have c11 := hx3.cell 11
      have c12 := hx3.cell 12
      have c13 := hx3.cell 13
      have c14 := hx3.cell 14
      have c15 := hx3.cell 15
      have c16 := hx3.cell 16
      have c17 := hx3.cell 17
      have c18 := hx3.cell 18
      simp at c11 c12 c13 c14 c15 c16 c17 c18
      go_wp2_with fail
      refine (bytes_st q _ B.q).mono ?_; rintro e w4 ⟨rfl, hb4⟩
      have hw4 := hw3.bel hb4
      have hB4 := hB3.trans (hb4.mono hB3.size)
      clear hx3 hw3 hB3 hb4 c11 c12 c13 c14 c15 c16 c17 c18
      go_wp2_with fail
      refine (raw_any _ _ _ _ hw4 (len_ok (by rw [List.length_append, e4, ep]; decide) (by rw [eq]; decide))).mono ?_; rintro e w5 ⟨rfl, hb5, hw5⟩
      have hB5 := hB4.trans (hb5.mono (Nat.le_succ _))
      clear hw4 hB4 hb5
      go_wp2_with fail
      refine (out_any _ _ _ hw5).mono ?_; rintro e w6 ⟨rfl, rfl⟩
      go_wp2_with fail
      go_ret
      exact ⟨rfl, hB5⟩
end Go.Proofs.YtcjjgfejamddjaaDoor.Rec
