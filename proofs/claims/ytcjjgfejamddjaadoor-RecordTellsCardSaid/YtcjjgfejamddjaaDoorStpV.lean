/-
  STAMPS: 'lives' of the statements of stamps, walked.
-/
import Derived.Test.YtcjjgfejamddjaaDoorStpE
import Derived.Test.YtcjjgfejamddjaaDoorStpB
namespace Go.Proofs.YtcjjgfejamddjaaDoor.Stp
open Go.ChangeShapes Go.WideShapes Go.ChangeAt Go.RowKit
open Go.Proofs.YtcjjgfejamddjaaDoor
open Go.Proofs.YtcjjgfejamddjaaDoor.Civ (Tab bcell ret_bool ret_int ret_two Inv dateE)
open Go.Proofs.YtcjjgfejamddjaaDoor.Wd (Blk)
set_option linter.unusedVariables false
theorem date_at {y m v d h i s u Y : Int} {w : World} (hT : Tab w) (B : Bd y m v d h i s u) {a b c e0 : Int} (h1 : dtY y m v d h i s u Y = a) (h2 : dtM y m v d h i s u Y = b) (h3 : dtD y m v d h i s u Y = c) (h4 : dtE y m v d h i s u Y = e0) :
    Calls Tryd.prog 25 #[stV y m v d h i s u, .int .i64 Y] w fun e w' => e = .returned (dateE a b c e0) ∧ Below w.heap.size w w' := by
  have := date_any y m v d h i s u Y w hT B
  rwa [h1, h2, h3, h4] at this
theorem local_at {y m v d h i s u Y : Int} {w : World} (hT : Tab w) (B : Bd y m v d h i s u) {a e0 : Int} (h1 : lcV y m v d h i s u Y = a) (h4 : dtE y m v d h i s u Y = e0) :
    Calls Tryd.prog 23 #[stV y m v d h i s u, .int .i64 Y] w fun e w' => e = .returned (.tuple #[.int .i64 a, .int .i64 e0]) ∧ Below w.heap.size w w' := by
  have := local_any y m v d h i s u Y w hT B
  rwa [h1, h4] at this
theorem chk_at {y m v d h i s u : Int} {w : World} (hT : Tab w) (B : Bd y m v d h i s u) {e0 : Int} (h1 : chkS y m v d h i s u = e0) :
    Calls Tryd.prog 24 #[stV y m v d h i s u] w fun e w' => e = .returned (.int .i64 e0) ∧ Below w.heap.size w w' := by
  have := chk_any y m v d h i s u w hT B
  rwa [h1] at this
theorem exact_m1 {w : World} (hT : Tab w) :
    Calls Tryd.prog 22 #[.int .i64 (-1)] w fun e w' => e = .returned (.tuple #[stV 1969 12 3 31 23 59 59 999, .int .i64 0]) ∧ Below w.heap.size w w' := by
  have := exact_any (-1) w hT (by omega)
  have hx : xOk (-1) = true := by decide
  rw [if_pos hx, if_pos hx] at this
  have e1 : Cal.ofYV (xD (-1)) = 1969 := by decide
  have e2 : Cal.ofMV (xD (-1)) = 12 := by decide
  have e3 : Cal.ofDV (xD (-1)) = 31 := by decide
  have e4 : Cal.wday (xD (-1)) = 3 := by decide
  have e5 : xT (-1) = 86399999 := by decide
  unfold xSt at this
  rw [e1, e2, e3, e4, e5] at this
  exact this
def litB : ByteArray := ⟨#[215, 7, 11, 0, 0, 0, 2, 1, 0, 0, 0, 0, 0, 0, 0, 0]⟩
theorem bytes_lit {w : World} :
    Calls Tryd.prog 21 #[stV 2007 11 0 258 0 0 0 0] w fun e w' => e = .returned (.string ⟨#[215, 7, 11, 0, 0, 0, 2, 1, 0, 0, 0, 0, 0, 0, 0, 0]⟩) ∧ Below w.heap.size w w' := by
  have := bytes_any 2007 11 0 258 0 0 0 0 w (by decide)
  have e : (Lit.encN 2 (stL 2007 11 0 258 0 0 0 0)).toArray = #[215, 7, 11, 0, 0, 0, 2, 1, 0, 0, 0, 0, 0, 0, 0, 0] := by decide +kernel
  rw [e] at this
  exact this
theorem of_lit {w : World} :
    Calls Tryd.prog 20 #[.string ⟨#[215, 7, 11, 0, 0, 0, 2, 1, 0, 0, 0, 0, 0, 0, 0, 0]⟩] w fun e w' => e = .returned (.tuple #[stV 2007 11 0 258 0 0 0 0, .int .i64 0]) ∧ Below w.heap.size w w' := by
  have := of_full ⟨#[215, 7, 11, 0, 0, 0, 2, 1, 0, 0, 0, 0, 0, 0, 0, 0]⟩ w rfl
  have e0 : ofV ⟨#[215, 7, 11, 0, 0, 0, 2, 1, 0, 0, 0, 0, 0, 0, 0, 0]⟩ 0 = 2007 := by decide +kernel
  have e1 : ofV ⟨#[215, 7, 11, 0, 0, 0, 2, 1, 0, 0, 0, 0, 0, 0, 0, 0]⟩ 1 = 11 := by decide +kernel
  have e2 : ofV ⟨#[215, 7, 11, 0, 0, 0, 2, 1, 0, 0, 0, 0, 0, 0, 0, 0]⟩ 2 = 0 := by decide +kernel
  have e3 : ofV ⟨#[215, 7, 11, 0, 0, 0, 2, 1, 0, 0, 0, 0, 0, 0, 0, 0]⟩ 3 = 258 := by decide +kernel
  have e4 : ofV ⟨#[215, 7, 11, 0, 0, 0, 2, 1, 0, 0, 0, 0, 0, 0, 0, 0]⟩ 4 = 0 := by decide +kernel
  have e5 : ofV ⟨#[215, 7, 11, 0, 0, 0, 2, 1, 0, 0, 0, 0, 0, 0, 0, 0]⟩ 5 = 0 := by decide +kernel
  have e6 : ofV ⟨#[215, 7, 11, 0, 0, 0, 2, 1, 0, 0, 0, 0, 0, 0, 0, 0]⟩ 6 = 0 := by decide +kernel
  have e7 : ofV ⟨#[215, 7, 11, 0, 0, 0, 2, 1, 0, 0, 0, 0, 0, 0, 0, 0]⟩ 7 = 0 := by decide +kernel
  rw [e0, e1, e2, e3, e4, e5, e6, e7] at this
  exact this
theorem of_half {w : World} {b : ByteArray} (hb : b.size = 8) :
    Calls Tryd.prog 20 #[.string b] w fun e w' => e = .returned (.tuple #[stV 0 0 0 0 0 0 0 0, .int .i64 11]) ∧ Below w.heap.size w w' :=
  of_short b w (by omega)
theorem bd_lit {y m v d h i s u : Int} (hh : (decide (0 ≤ y ∧ y ≤ 65535) && decide (0 ≤ m ∧ m ≤ 65535) && decide (0 ≤ v ∧ v ≤ 65535) && decide (0 ≤ d ∧ d ≤ 65535) && decide (0 ≤ h ∧ h ≤ 65535) && decide (0 ≤ i ∧ i ≤ 65535) && decide (0 ≤ s ∧ s ≤ 65535) && decide (0 ≤ u ∧ u ≤ 65535)) = true) : Bd y m v d h i s u := by
  simp only [Bool.and_eq_true, decide_eq_true_eq] at hh
  obtain ⟨⟨⟨⟨⟨⟨⟨a, b⟩, c⟩, d⟩, e⟩, f⟩, g⟩, h⟩ := hh
  exact ⟨a, b, c, d, e, f, g, h⟩
set_option maxRecDepth 100000 in
set_option maxHeartbeats 8000000 in
theorem lives_any (w : World) (hT : Tab w) :
    Calls Tryd.prog 19 #[] w fun e w' => e = .returned (.bool true) ∧ Below w.heap.size w w' := by
  have i0 := Civ.Inv.start hT
  go_enter Tryd.func19, Tryd.ntmps19
  go_wp2_with fail
  refine (date_at (i0.alloc _).1 (bd_lit (by decide)) (a := 2024) (b := 3) (c := 31) (e0 := 0) (by decide) (by decide) (by decide) (by decide)).mono ?_; rintro e w1 ⟨rfl, hb1⟩
  have s1 := (Blk.new w 41 #[.int .u16 0, .int .u16 3, .int .u16 0, .int .u16 5, .int .u16 2, .int .u16 0, .int .u16 0, .int .u16 0]).below hb1 (by simp)
  have i1 := (i0.alloc _).call hb1
  clear hb1
  have d1 := Blk.new w1 27 #[.int .i64 2024, .int .i64 3, .int .i64 31]
  go_wp2_with fail
  refine (local_at (i1.alloc _).1 (bd_lit (by decide)) (a := 86400007) (e0 := 0) (by decide) (by decide)).mono ?_; rintro e w2 ⟨rfl, hb2⟩
  have s2 := (s1.alloc (.cells #[.int .i64 2024, .int .i64 3, .int .i64 31] 27)).below hb2 (by have := s1.lt; simp; omega)
  have d2 := d1.below hb2 (by simp)
  have i2 := (i1.alloc _).call hb2
  clear hb2 d1 s1
  go_wp2_with fail
  refine (local_at i2.1 (bd_lit (by decide)) (a := 0) (e0 := 3) (by decide) (by decide)).mono ?_; rintro e w3 ⟨rfl, hb3⟩
  have s3 := s2.below hb3 (by have := s2.lt; simp; omega)
  have d3 := d2.below hb3 (by have := d2.lt; simp; omega)
  have i3 := i2.call hb3
  clear hb3 s2 d2
  go_wp2_with fail
  refine (exact_m1 i3.1).mono ?_; rintro e w4 ⟨rfl, hb4⟩
  have s4 := s3.below hb4 (by have := s3.lt; simp; omega)
  have d4 := d3.below hb4 (by have := d3.lt; simp; omega)
  have i4 := i3.call hb4
  clear hb4 s3 d3
  have c0 := s4.cell 0
  have c1 := s4.cell 1
  have c2 := s4.cell 2
  have c3 := s4.cell 3
  have c4 := s4.cell 4
  have c5 := s4.cell 5
  have c6 := s4.cell 6
  have c7 := s4.cell 7
  simp at c0 c1 c2 c3 c4 c5 c6 c7
  have cl := s4.lt
  go_wp2_with fail
  refine (date_at (i4.alloc _).1 (bd_lit (by decide)) (a := 0) (b := 0) (c := 0) (e0 := 1) (by decide) (by decide) (by decide) (by decide)).mono ?_; rintro e w5 ⟨rfl, hb5⟩
  clear c0 c1 c2 c3 c4 c5 c6 c7 cl
  have s5 := (s4.alloc (.cells #[.int .u16 1969, .int .u16 12, .int .u16 3, .int .u16 31, .int .u16 23, .int .u16 59, .int .u16 59, .int .u16 999] 41)).below hb5 (by have := s4.lt; simp; omega)
  have d5 := (d4.alloc (.cells #[.int .u16 1969, .int .u16 12, .int .u16 3, .int .u16 31, .int .u16 23, .int .u16 59, .int .u16 59, .int .u16 999] 41)).below hb5 (by have := d4.lt; simp; omega)
  have x5 := (Blk.new w4 41 #[.int .u16 1969, .int .u16 12, .int .u16 3, .int .u16 31, .int .u16 23, .int .u16 59, .int .u16 59, .int .u16 999]).below hb5 (by simp)
  have i5 := (i4.alloc (.cells #[.int .u16 1969, .int .u16 12, .int .u16 3, .int .u16 31, .int .u16 23, .int .u16 59, .int .u16 59, .int .u16 999] 41)).call hb5
  clear hb5 s4 d4
  go_wp2_with fail
  refine bytes_lit.mono ?_; rintro e w6 ⟨rfl, hb6⟩
  have s6 := (s5.alloc (.cells #[.int .i64 0, .int .i64 0, .int .i64 0] 27)).below hb6 (by have := s5.lt; simp; omega)
  have d6 := (d5.alloc (.cells #[.int .i64 0, .int .i64 0, .int .i64 0] 27)).below hb6 (by have := d5.lt; simp; omega)
  have x6 := (x5.alloc (.cells #[.int .i64 0, .int .i64 0, .int .i64 0] 27)).below hb6 (by have := x5.lt; simp; omega)
  have i6 := (i5.alloc (.cells #[.int .i64 0, .int .i64 0, .int .i64 0] 27)).call hb6
  clear hb6 s5 d5 x5
  go_wp2_with fail
  refine of_lit.mono ?_; rintro e w7 ⟨rfl, hb7⟩
  have s7 := s6.below hb7 (by have := s6.lt; simp; omega)
  have d7 := d6.below hb7 (by have := d6.lt; simp; omega)
  have x7 := x6.below hb7 (by have := x6.lt; simp; omega)
  have i7 := i6.call hb7
  clear hb7 s6 d6 x6
  go_wp2_with fail
  refine (of_half (by decide)).mono ?_; rintro e w8 ⟨rfl, hb8⟩
  have s8 := (s7.alloc (.cells #[.int .u16 2007, .int .u16 11, .int .u16 0, .int .u16 258, .int .u16 0, .int .u16 0, .int .u16 0, .int .u16 0] 41)).below hb8 (by have := s7.lt; simp; omega)
  have d8 := (d7.alloc (.cells #[.int .u16 2007, .int .u16 11, .int .u16 0, .int .u16 258, .int .u16 0, .int .u16 0, .int .u16 0, .int .u16 0] 41)).below hb8 (by have := d7.lt; simp; omega)
  have x8 := (x7.alloc (.cells #[.int .u16 2007, .int .u16 11, .int .u16 0, .int .u16 258, .int .u16 0, .int .u16 0, .int .u16 0, .int .u16 0] 41)).below hb8 (by have := x7.lt; simp; omega)
  have y8 := (Blk.new w7 41 #[.int .u16 2007, .int .u16 11, .int .u16 0, .int .u16 258, .int .u16 0, .int .u16 0, .int .u16 0, .int .u16 0]).below hb8 (by simp)
  have i8 := (i7.alloc (.cells #[.int .u16 2007, .int .u16 11, .int .u16 0, .int .u16 258, .int .u16 0, .int .u16 0, .int .u16 0, .int .u16 0] 41)).call hb8
  clear hb8 s7 d7 x7
  go_wp2_with fail
  refine (date_at (i8.alloc _).1 (bd_lit (by decide)) (a := 2024) (b := 11) (c := 28) (e0 := 0) (by decide) (by decide) (by decide) (by decide)).mono ?_; rintro e w9 ⟨rfl, hb9⟩
  have s9 := (s8.alloc (.cells #[.int .u16 0, .int .u16 0, .int .u16 0, .int .u16 0, .int .u16 0, .int .u16 0, .int .u16 0, .int .u16 0] 41)).below hb9 (by have := s8.lt; simp; omega)
  have d9 := (d8.alloc (.cells #[.int .u16 0, .int .u16 0, .int .u16 0, .int .u16 0, .int .u16 0, .int .u16 0, .int .u16 0, .int .u16 0] 41)).below hb9 (by have := d8.lt; simp; omega)
  have x9 := (x8.alloc (.cells #[.int .u16 0, .int .u16 0, .int .u16 0, .int .u16 0, .int .u16 0, .int .u16 0, .int .u16 0, .int .u16 0] 41)).below hb9 (by have := x8.lt; simp; omega)
  have y9 := (y8.alloc (.cells #[.int .u16 0, .int .u16 0, .int .u16 0, .int .u16 0, .int .u16 0, .int .u16 0, .int .u16 0, .int .u16 0] 41)).below hb9 (by have := y8.lt; simp; omega)
  have i9 := (i8.alloc (.cells #[.int .u16 0, .int .u16 0, .int .u16 0, .int .u16 0, .int .u16 0, .int .u16 0, .int .u16 0, .int .u16 0] 41)).call hb9
  clear hb9 s8 d8 x8 y8
  have cs0 := s9.cell 0
  have cs1 := s9.cell 1
  have cs2 := s9.cell 2
  have cs3 := s9.cell 3
  have cs4 := s9.cell 4
  have cs5 := s9.cell 5
  have cs6 := s9.cell 6
  have cs7 := s9.cell 7
  simp at cs0 cs1 cs2 cs3 cs4 cs5 cs6 cs7
  have csl := s9.lt
  have cd0 := d9.cell 0
  have cd1 := d9.cell 1
  have cd2 := d9.cell 2
  simp at cd0 cd1 cd2
  have cdl := d9.lt
  have cx0 := x9.cell 0
  have cx1 := x9.cell 1
  have cx2 := x9.cell 2
  have cx3 := x9.cell 3
  have cx4 := x9.cell 4
  have cx5 := x9.cell 5
  have cx6 := x9.cell 6
  have cx7 := x9.cell 7
  simp at cx0 cx1 cx2 cx3 cx4 cx5 cx6 cx7
  have cxl := x9.lt
  have cy0 := y9.cell 0
  have cy1 := y9.cell 1
  have cy2 := y9.cell 2
  have cy3 := y9.cell 3
  have cy4 := y9.cell 4
  have cy5 := y9.cell 5
  have cy6 := y9.cell 6
  have cy7 := y9.cell 7
  simp at cy0 cy1 cy2 cy3 cy4 cy5 cy6 cy7
  have cyl := y9.lt
  go_wp2_with fail
  refine (chk_at (i9.alloc _).1 (bd_lit (by decide)) (e0 := 0) (by decide)).mono ?_; rintro e w10 ⟨rfl, hb10⟩
  clear cs0 cs1 cs2 cs3 cs4 cs5 cs6 cs7 csl
  clear cd0 cd1 cd2 cdl
  clear cx0 cx1 cx2 cx3 cx4 cx5 cx6 cx7 cxl
  clear cy0 cy1 cy2 cy3 cy4 cy5 cy6 cy7 cyl
  have s10 := (s9.alloc (.cells #[.int .i64 2024, .int .i64 11, .int .i64 28] 27)).below hb10 (by have := s9.lt; simp; omega)
  have d10 := (d9.alloc (.cells #[.int .i64 2024, .int .i64 11, .int .i64 28] 27)).below hb10 (by have := d9.lt; simp; omega)
  have x10 := (x9.alloc (.cells #[.int .i64 2024, .int .i64 11, .int .i64 28] 27)).below hb10 (by have := x9.lt; simp; omega)
  have y10 := (y9.alloc (.cells #[.int .i64 2024, .int .i64 11, .int .i64 28] 27)).below hb10 (by have := y9.lt; simp; omega)
  have i10 := (i9.alloc (.cells #[.int .i64 2024, .int .i64 11, .int .i64 28] 27)).call hb10
  clear hb10 s9 d9 x9 y9
  go_wp2_with fail
  refine (chk_at i10.1 (bd_lit (by decide)) (e0 := 2) (by decide)).mono ?_; rintro e w11 ⟨rfl, hb11⟩
  have i11 := i10.call hb11
  go_wp2_with fail
  refine (chk_at i11.1 (bd_lit (by decide)) (e0 := 0) (by decide)).mono ?_; rintro e w12 ⟨rfl, hb12⟩
  have i12 := i11.call hb12
  go_wp2_with fail
  go_ret
  exact ⟨rfl, i12.2⟩
end Go.Proofs.YtcjjgfejamddjaaDoor.Stp
