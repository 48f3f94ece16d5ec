/-
  THE REFERENCE, walked: a record of bytes.
-/
import Derived.Test.YtcjjgfejamddjaaDoorRrO
import Derived.Test.YtcjjgfejamddjaaDoorRrA
namespace Go.Proofs.YtcjjgfejamddjaaDoor.Rf
open Go.ChangeShapes Go.WideShapes Go.ChangeAt Go.RowKit
open Go.Proofs.YtcjjgfejamddjaaDoor
open Go.Proofs.YtcjjgfejamddjaaDoor.Wd
open Go.Proofs.YtcjjgfejamddjaaDoor.Lit
open Go.Proofs.YtcjjgfejamddjaaDoor.Rec
open Go.Proofs.YtcjjgfejamddjaaDoor.Civ (Tab Inv)
set_option linter.unusedVariables false
def lk (b : ByteArray) (k j : Nat) : Value := .int .i64 (if j < k then oB b j else 0)
def l3 (b : ByteArray) (k : Nat) : Array Value := #[lk b k 0, lk b k 1, lk b k 2]
theorem l3_at (b : ByteArray) {k : Nat} (h : k < 3) : (l3 b k)[k]? = some (.int .i64 0) := by
  have hk8 : k = 0 ∨ k = 1 ∨ k = 2 := by omega
  rcases hk8 with rfl | rfl | rfl <;> rfl
theorem l3_set (b : ByteArray) {k : Nat} (h : k < 3) : (l3 b k).setIfInBounds k (.int .i64 (oB b k)) = l3 b (k + 1) := by
  have hk8 : k = 0 ∨ k = 1 ∨ k = 2 := by omega
  rcases hk8 with rfl | rfl | rfl <;> rfl
theorem oB_sgn {b x : ByteArray} {k : Nat} (hx : LB x = (LB b).drop (4 * k)) : sgn 4 (leN (x.extract 0 4).data.toList) = oB b k := by
  show sgn 4 (leN (LB (x.extract 0 4))) = _
  rw [LB_ext, hx]; rfl
theorem rd_next {b x : ByteArray} (hb : b.size = 44) {k : Nat} (hk : k < 3) (hx : LB x = (LB b).drop (4 * k)) :
    4 ≤ x.size ∧ x.size ≤ 1000 ∧ LB (x.extract 4 x.size) = (LB b).drop (4 * (k + 1)) := by
  have hs : x.size = 44 - 4 * k := by rw [← LB_len, hx, List.length_drop, LB_len, hb]
  refine ⟨by omega, by omega, ?_⟩
  rw [LB_ext, List.take_of_length_le (by rw [LB_len]; exact Nat.le_refl _), hx, List.drop_drop]
  congr 1
theorem oX_0 {b : ByteArray} : b.extract 12 28 = oX b 0 := by
  apply ByteArray.ext; apply Array.toList_inj.1
  show LB (b.extract 12 28) = ((LB b).drop (12 + 16 * 0)).take 16
  rw [LB_ext, List.drop_take]
theorem oX_1 {b : ByteArray} (hb : b.size = 44) : b.extract 28 b.size = oX b 1 := by
  apply ByteArray.ext; apply Array.toList_inj.1
  show LB (b.extract 28 b.size) = ((LB b).drop (12 + 16 * 1)).take 16
  rw [LB_ext, List.take_of_length_le (by rw [LB_len]; exact Nat.le_refl _), List.take_of_length_le (by rw [List.length_drop, LB_len, hb]; decide)]
set_option maxRecDepth 20000 in
set_option maxHeartbeats 1600000 in
theorem rof_short (b : ByteArray) (w : World) (hb : b.size ≠ 44) :
    Calls Tryd.prog 31 #[.string b] w fun e w' => e = .returned (.tuple #[oV b, .int .i64 (oE b)]) ∧ Below w.heap.size w w' := by
  have hb' : ((b.size : Int) != 44) = true := by simp; omega
  obtain ⟨e1, e2⟩ := of_bad (b := b) (by unfold oOk; simp [hb])
  rw [e1, e2]
  clear hb
  have x0 := Blk.new w 53 z19
  have hB := (Below.refl w.heap.size w).alloc (Nat.le_refl _) (.cells z19 53)
  go_enter Tryd.func31, Tryd.ntmps31
  go_wp2_with (refine wpList_store_seg rfl 53 _ _ rfl rfl _ 0 z19 z19 rfl rfl _ _ x0 (by decide) (by kernel_rfl) (by kernel_rfl) (by kernel_rfl) ?_)
  exact bodyPost_ret (results_zero rfl _ _ _ _ _ _ rfl rfl (Blk.row x0 _) rfl) rfl ⟨rfl, below_row hB (Nat.le_refl _) _⟩
set_option maxRecDepth 20000 in
set_option maxHeartbeats 6400000 in
theorem rof_full (b : ByteArray) (w : World) (hT : Tab w) (hb : b.size = 44) :
    Calls Tryd.prog 31 #[.string b] w fun e w' => e = .returned (.tuple #[oV b, .int .i64 (oE b)]) ∧ Below w.heap.size w w' := by
  have hb' : ((b.size : Int) != 44) = false := by simp; omega
  have HB := Lib.hid hb; clear hb
  have x0 := ((Blk.new w 53 z19).alloc (.cells (l3 b 0) 103)).alloc (.cells (rdA b false) 105)
  have y0 := (blk_at (w.alloc (.cells z19 53)) 103 (l3 b 0) (sz1 w _ rfl)).alloc (.cells (rdA b false) 105)
  have r0 := blk_at ((w.alloc (.cells z19 53)).alloc (.cells (l3 b 0) 103)) 105 (rdA b false) (sz1 _ _ (sz1 w _ rfl))
  have i0 : Inv w (((w.alloc (.cells z19 53)).alloc (.cells (l3 b 0) 103)).alloc (.cells (rdA b false) 105)) := (((Inv.start hT).alloc _).alloc _).alloc _
  rw [show l3 b 0 = #[.int .i64 0, .int .i64 0, .int .i64 0] from rfl] at x0 y0 r0 i0
  unfold z19 at x0 y0 r0 i0
  go_enter Tryd.func31, Tryd.ntmps31
  go_wp2_with (refine wpList_store_new rfl 105 _ _ rfl rfl (w.heap.size + 1 + 1) (rdA b false) rfl rfl _ #[.string ⟨#[]⟩, .bool false] ((w.alloc (.cells #[.int .i32 0, .int .i32 0, .int .i32 0, .int .u16 0, .int .u16 0, .int .u16 0, .int .u16 0, .int .u16 0, .int .u16 0, .int .u16 0, .int .u16 0, .int .u16 0, .int .u16 0, .int .u16 0, .int .u16 0, .int .u16 0, .int .u16 0, .int .u16 0, .int .u16 0] 53)).alloc (.cells #[.int .i64 0, .int .i64 0, .int .i64 0] 103)) rfl (sz1 _ _ (sz1 w _ rfl)).symm rfl (by kernel_rfl) (by kernel_rfl) ?_)
  generalize ((w.alloc (.cells #[.int .i32 0, .int .i32 0, .int .i32 0, .int .u16 0, .int .u16 0, .int .u16 0, .int .u16 0, .int .u16 0, .int .u16 0, .int .u16 0, .int .u16 0, .int .u16 0, .int .u16 0, .int .u16 0, .int .u16 0, .int .u16 0, .int .u16 0, .int .u16 0, .int .u16 0] 53)).alloc (.cells #[.int .i64 0, .int .i64 0, .int .i64 0] 103)).alloc (.cells (rdA b false) 105) = W at *
  have y0 : Blk W (w.heap.size + 1) 103 (l3 b 0) := y0
  go_loopw [14, 6] (fun i _ wr => ∃ (k : Nat) (x : ByteArray), i = .int .i64 k ∧ k ≤ 3 ∧ LB x = (LB b).drop (4 * k) ∧ Blk wr w.heap.size 53 z19 ∧ Blk wr (w.heap.size + 1) 103 (l3 b k) ∧ Blk wr (w.heap.size + 1 + 1) 105 (rdA x false) ∧ Inv w wr) (fun i _ _ => 3 - (intOf i).toNat)
  case atStart => exact ⟨0, b, rfl, Nat.zero_le _, by simp, x0, y0, r0, i0⟩
  case round =>
    clear x0 y0 r0 i0 hb'
    obtain ⟨k, x, rfl, hk, hx, hx0, hy, hr, hi⟩ := hrel
    by_cases hlt : k < 3
    · have hlt' : (k : Int) < 3 := by omega
      obtain ⟨n1, n2, n3⟩ := rd_next HB.out hlt hx
      have hs := fun w' => signed_4 x w' n1 n2
      rw [oB_sgn hx] at hs
      have hSet := Lib.hid (l3_set b hlt)
      have hAt := l3_at b hlt
      have HX := Lib.hid n3
      generalize x.extract 4 x.size = x2 at *
      generalize oB b k = z at *
      clear n1 n2 n3 hx
      go_wp2_with (first | (refine wpList_row_g rfl 105 _ rfl _ rfl _ _ _ _ hr Tryd.underlying105 rfl (by kernel_rfl) ?_))
      refine (hs _).mono ?_; rintro e w1 ⟨rfl, hb1⟩
      have r1 := hr.below hb1 hr.lt
      have y1 := hy.below hb1 hy.lt
      have z1 := hx0.below hb1 hx0.lt
      have i1 := hi.call hb1
      have r2 := Blk.row r1 (rdA x2 false)
      have y2 := Blk.rowFar y1 (show w.heap.size + 1 ≠ w.heap.size + 1 + 1 by omega) (rdA x2 false)
      have z2 := Blk.rowFar z1 (show w.heap.size ≠ w.heap.size + 1 + 1 by omega) (rdA x2 false)
      have B2 := below_row i1.2 (show w.heap.size ≤ w.heap.size + 1 + 1 by omega) (rdA x2 false)
      have c0 := y2.cell k
      have f0 := y2.frozen k
      rw [hAt] at c0
      clear hr hy hx0 hi hb1 y1 z1 hs hAt
      go_wp2_with (refine wpList_store_g rfl 105 _ _ rfl rfl _ 0 (rdA x2 false) (rdA x2 false) rfl rfl _ _ r1 (by show 0 + 2 ≤ 2; decide) (by kernel_rfl) (by kernel_rfl) (by kernel_rfl) ?_)
      go_roundw
      case rel =>
        have B3 := B2.setCell (p := ⟨w.heap.size + 1, k, none⟩) (Nat.le_succ _) (.int .i64 z)
        exact ⟨k + 1, x2, by go_num, by omega, HX.out, z2.far (p := ⟨w.heap.size + 1, k, none⟩) (by show w.heap.size ≠ w.heap.size + 1; omega) _, by rw [← hSet.out]; exact y2.set_ k _, r2.far (p := ⟨w.heap.size + 1, k, none⟩) (by show w.heap.size + 1 + 1 ≠ w.heap.size + 1; omega) _, ⟨hT.below hT.1 B3, B3⟩⟩
      case measure => simp [intOf]; omega
    · obtain rfl : k = 3 := by omega
      have hlt' : ¬ ((3 : Nat) : Int) < 3 := by omega
      clear hr hx
      have hy : Blk wr (w.heap.size + 1) 103 #[.int .i64 (oB b 0), .int .i64 (oB b 1), .int .i64 (oB b 2)] := hy
      have RB := o_bd b
      have H44 := Lib.hid (show oOk b = rcOk (oB b 0) (oB b 1) (oB b 2) (oS b 0) (oS b 1) by unfold oOk; rw [HB.out]; simp)
      have HV := Lib.hid (show oV b = if rcOk (oB b 0) (oB b 1) (oB b 2) (oS b 0) (oS b 1) = true then rcV (oB b 0) (oB b 1) (oB b 2) (oS b 0) (oS b 1) else rcV 0 0 0 St.nil St.nil by unfold oV; rw [H44.out])
      have HE := Lib.hid (show oE b = if rcOk (oB b 0) (oB b 1) (oB b 2) (oS b 0) (oS b 1) = true then 0 else 11 by unfold oE; rw [H44.out])
      have hp := fun w' => rof16 (oX b 0) w' (oX_size b HB.out (by decide : 0 < 2))
      have hq := fun w' => rof16 (oX b 1) w' (oX_size b HB.out (by decide : 1 < 2))
      rw [show stOf (oX b 0) = oS b 0 from rfl] at hp
      rw [show stOf (oX b 1) = oS b 1 from rfl] at hq
      have e0 : b.extract 12 28 = oX b 0 := oX_0
      have e1 : b.extract 28 b.size = oX b 1 := oX_1 HB.out
      have l44 : (b.size : Int) = 44 := by have := HB.out; omega
      have e1' : b.extract 28 44 = oX b 1 := by rw [← e1, HB.out]
      have c0 := hy.cell 0
      have c1 := hy.cell 1
      have c2 := hy.cell 2
      simp at c0 c1 c2
      have o0 : IntKind.i32.wrap (oB b 0) = oB b 0 := by have := oB_bd b 0; simp [IntKind.wrap, IntKind.bits, IntKind.signed]; omega
      have o1 : IntKind.i32.wrap (oB b 1) = oB b 1 := by have := oB_bd b 1; simp [IntKind.wrap, IntKind.bits, IntKind.signed]; omega
      have o2 : IntKind.i32.wrap (oB b 2) = oB b 2 := by have := oB_bd b 2; simp [IntKind.wrap, IntKind.bits, IntKind.signed]; omega
      clear H44
      generalize oB b 0 = d0 at *
      generalize oB b 1 = d1 at *
      generalize oB b 2 = d2 at *
      generalize oS b 0 = p at *
      generalize oS b 1 = q at *
      generalize oX b 0 = xp at *
      generalize oX b 1 = xq at *
      have i7 := hi.alloc (.cells (rcA d0 d1 d2 St.nil St.nil) 53)
      have x7 := hx0.alloc (.cells (rcA d0 d1 d2 St.nil St.nil) 53)
      have t7 := Blk.new wr 53 (rcA d0 d1 d2 St.nil St.nil)
      have zg := hx0.lt
      clear hi hx0 hy
      go_wp2_with (refine wpList_store_new rfl 53 _ _ rfl rfl wr.heap.size (rcA d0 d1 d2 St.nil St.nil) rfl rfl _ z19 wr rfl rfl rfl (by kernel_rfl) (by kernel_rfl) ?_)
      refine (hp _).mono ?_; rintro e w2 ⟨rfl, hb2⟩
      have i8 := i7.call hb2
      have x8 := x7.below hb2 x7.lt
      have t8 := t7.below hb2 t7.lt
      have t9 := Blk.row t8 (rcA d0 d1 d2 p St.nil)
      have x9 := Blk.rowFar x8 (show w.heap.size ≠ wr.heap.size by omega) (rcA d0 d1 d2 p St.nil)
      have B9 := below_row i8.2 (show w.heap.size ≤ wr.heap.size by omega) (rcA d0 d1 d2 p St.nil)
      clear i7 x7 t7 hb2 x8 i8
      go_wp2_with (refine wpList_store_g rfl 41 _ _ rfl rfl _ 3 (sA p) (rcA d0 d1 d2 p St.nil) rfl rfl _ _ t8 (by show 3 + 8 ≤ 19; decide) (by kernel_rfl) (by kernel_rfl) (by kernel_rfl) ?_)
      refine (hq _).mono ?_; rintro e w3 ⟨rfl, hb3⟩
      have x10 := x9.below hb3 x9.lt
      have t10 := t9.below hb3 t9.lt
      have B10 := B9.trans (hb3.mono B9.size)
      have t11 := Blk.row t10 (rcA d0 d1 d2 p q)
      have x11 := Blk.rowFar x10 (show w.heap.size ≠ wr.heap.size by omega) (rcA d0 d1 d2 p q)
      have B11 := below_row B10 (show w.heap.size ≤ wr.heap.size by omega) (rcA d0 d1 d2 p q)
      clear x9 t9 B9 hb3 x10 B10 t8
      go_wp2_with (first
        | refine wpList_store_g rfl 41 _ _ rfl rfl _ 11 (sA q) (rcA d0 d1 d2 p q) rfl rfl _ _ t10 (by show 11 + 8 ≤ 19; decide) (by kernel_rfl) (by kernel_rfl) (by kernel_rfl) ?_
        | refine wpList_row_g rfl 53 _ rfl _ rfl _ _ _ _ t11 Tryd.underlying53 rfl (by kernel_rfl) ?_)
      refine (rrc_any d0 d1 d2 p q _ (hT.below hT.1 B11) RB).mono ?_; rintro e w5 ⟨rfl, hb5⟩
      have t12 := t11.below hb5 t11.lt
      have x12 := x11.below hb5 x11.lt
      have B12 := B11.trans (hb5.mono B11.size)
      clear t10 t11 x11 B11 hb5
      cases hrc : rcOk d0 d1 d2 p q
      · have hc : (rcE d0 d1 d2 p q != 0) = true := by unfold rcE; rw [hrc]; rfl
        rw [hrc] at HV HE
        clear hrc
        go_wp2_with (refine wpList_store_seg rfl 53 _ _ rfl rfl _ 0 z19 z19 rfl rfl _ _ x12 (by decide) (by kernel_rfl) (by kernel_rfl) (by kernel_rfl) ?_)
        exact bodyPost_ret (results_zero rfl _ _ _ _ _ _ rfl rfl (Blk.row x12 _) rfl) rfl ⟨by rw [HV.out, HE.out]; rfl, below_row B12 (Nat.le_refl _) _⟩
      · have hc : (rcE d0 d1 d2 p q != 0) = false := by unfold rcE; rw [hrc]; rfl
        rw [hrc] at HV HE
        clear hrc
        go_wp2_with (first
          | (refine wpList_load_row rfl 53 _ rfl _ rfl _ _ _ _ t12 Tryd.underlying53 rfl (by kernel_rfl) ?_)
          | (refine wpList_store_seg rfl 53 _ _ rfl rfl _ 0 (rcA d0 d1 d2 p q) (rcA d0 d1 d2 p q) rfl rfl _ _ x12 (by show 0 + 19 ≤ 19; decide) (by kernel_rfl) (by kernel_rfl) (by kernel_rfl) ?_))
        exact bodyPost_ret (results_zero rfl _ _ _ _ _ _ rfl rfl (Blk.row x12 _) rfl) rfl ⟨by rw [HV.out, HE.out]; rfl, below_row B12 (Nat.le_refl _) _⟩
theorem rof_any (b : ByteArray) (w : World) (hT : Tab w) :
    Calls Tryd.prog 31 #[.string b] w fun e w' => e = .returned (.tuple #[oV b, .int .i64 (oE b)]) ∧ Below w.heap.size w w' := by
  by_cases h : b.size = 44
  · exact rof_full b w hT h
  · exact rof_short b w h
end Go.Proofs.YtcjjgfejamddjaaDoor.Rf
