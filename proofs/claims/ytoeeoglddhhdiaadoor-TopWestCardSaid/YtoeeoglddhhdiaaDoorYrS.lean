/-
  YEARS: the spans of a record of one offset alone, in 1970; what the statements of stage 11 ask first.
-/
import Derived.Test.YtoeeoglddhhdiaaDoorYrA
namespace Go.Proofs.YtoeeoglddhhdiaaDoor.Yr
open Go.ChangeShapes Go.WideShapes Go.ChangeAt Go.RowKit
open Go.Proofs.YtoeeoglddhhdiaaDoor
open Go.Proofs.YtoeeoglddhhdiaaDoor.Wd
open Go.Proofs.YtoeeoglddhhdiaaDoor.Rec
open Go.Proofs.YtoeeoglddhhdiaaDoor.Civ (Tab Inv)
set_option linter.unusedVariables false
abbrev aX : Array Value := #[.int .i32 (-60), .int .i32 0, .int .i32 0, .int .u16 0, .int .u16 0, .int .u16 0, .int .u16 0, .int .u16 0, .int .u16 0, .int .u16 0, .int .u16 0, .int .u16 0, .int .u16 0, .int .u16 0, .int .u16 0, .int .u16 0, .int .u16 0, .int .u16 0, .int .u16 0]
theorem nil_bd : RBd (-60) 0 0 St.nil St.nil := by
  refine ⟨by decide, by decide, by decide, ?_, ?_⟩ <;> exact ⟨by decide, by decide, by decide, by decide, by decide, by decide, by decide, by decide⟩
theorem turns_x {w : World} (hT : Tab w) :
    Calls Tryd.prog 59 #[.agg aX, .int .i64 1970] w fun e w' => e = .returned (.tuple #[twoV 4611686018427387904 4611686018427387904, .int .i64 0]) ∧ Below w.heap.size w w' := by
  have := turns_any (-60) 0 0 St.nil St.nil 1970 w hT nil_bd
  have e1 : trE (-60) 0 0 St.nil St.nil 1970 = 0 := by decide
  have e2 : trA (-60) 0 0 St.nil St.nil 1970 = 4611686018427387904 := by decide
  have e3 : trB (-60) 0 0 St.nil St.nil 1970 = 4611686018427387904 := by decide
  rw [e1, e2, e3] at this
  exact this
theorem state_x {w : World} :
    Calls Tryd.prog 60 #[.agg aX, twoV 4611686018427387904 4611686018427387904, .int .i64 0] w fun e w' => e = .returned (stateV 3600 false) ∧ Below w.heap.size w w' := by
  have := state_any (-60) 0 0 St.nil St.nil 4611686018427387904 4611686018427387904 0 w nil_bd
  have e1 : sumB 4611686018427387904 4611686018427387904 0 = false := by decide
  have e2 : stO (-60) 0 0 4611686018427387904 4611686018427387904 0 = 3600 := by decide
  rw [e1, e2] at this
  exact this
set_option maxRecDepth 20000 in
set_option maxHeartbeats 1600000 in
theorem begin_at {y n : Int} {w : World} (h1 : Cal.firV y = n) (h2 : Cal.firE y = 0) (hn : -106751991167300 ≤ n ∧ n ≤ 106751991167300) :
    Calls Tryd.prog 81 #[.int .i64 y] w fun e w' => e = .returned (.tuple #[.int .i64 (n * 86400), .int .i64 0]) ∧ w' = w := by
  have hc := Civ.fir_any y w
  rw [h1, h2] at hc
  clear h1 h2
  go_enter Tryd.func81, Tryd.ntmps81
  go_wp2_with fail
  refine hc.mono ?_; rintro e w1 ⟨rfl, rfl⟩
  go_wp2_with fail
  go_ret2
  exact ⟨rfl, rfl⟩
theorem ix_0 (w : World) : (Instr.index 102 (.agg #[.int .i64 4611686018427387904, .int .i64 4611686018427387904]) (.int .i64 0)).run Tryd.prog w = .ok (.int .i64 4611686018427387904) w := by kernel_rfl
theorem ix_1 (w : World) : (Instr.index 102 (.agg #[.int .i64 4611686018427387904, .int .i64 4611686018427387904]) (.int .i64 1)).run Tryd.prog w = .ok (.int .i64 4611686018427387904) w := by kernel_rfl
set_option maxRecDepth 20000 in
set_option maxHeartbeats 3200000 in
theorem spans_x {w : World} (hT : Tab w) :
    Calls Tryd.prog 63 #[.agg aX, .int .i64 1970] w fun e w' => ∃ g, e = .returned (.tuple #[.slice (some ⟨g, 0, none⟩) 1 1, .int .i64 0]) ∧ Blk w' g 61 #[.int .i64 0, .int .i64 3600, .bool false] ∧ w.heap.size ≤ g ∧ Below w.heap.size w w' := by
  have i0 := Civ.Inv.start hT
  have i1 := i0.alloc (.cells aX 44)
  have x0 := Blk.new w 44 aX
  go_enter Tryd.func63, Tryd.ntmps63
  go_wp2_with (refine wpList_row_g rfl 44 _ rfl _ rfl _ _ _ _ x0 Tryd.underlying44 rfl (by kernel_rfl) ?_)
  refine (turns_x i1.1).mono ?_; rintro e w1 ⟨rfl, hb1⟩
  have x1 := (x0.below hb1 x0.lt).alloc (.cells #[.int .i64 4611686018427387904, .int .i64 4611686018427387904] 102)
  have y1 := Blk.new w1 102 #[.int .i64 4611686018427387904, .int .i64 4611686018427387904]
  have i2 := (i1.call hb1).alloc (.cells #[.int .i64 4611686018427387904, .int .i64 4611686018427387904] 102)
  clear x0 i1 hb1
  go_wp2_with fail
  refine (begin_at (n := 0) (by decide) (by decide) (by decide)).mono ?_; rintro e w2 ⟨rfl, rfl⟩
  go_wp2_with fail
  refine (begin_at (n := 365) (by decide) (by decide) (by decide)).mono ?_; rintro e w2 ⟨rfl, rfl⟩
  go_wp2_with (first
    | refine wpList_row_g rfl 44 _ rfl _ rfl _ _ _ _ x1 Tryd.underlying44 rfl (by kernel_rfl) ?_
    | refine wpList_row_g rfl 102 _ rfl _ rfl _ _ _ _ y1 Tryd.underlying102 rfl (by kernel_rfl) ?_)
  refine state_x.mono ?_; rintro e w3 ⟨rfl, hb3⟩
  have y2 := (y1.below hb3 y1.lt).alloc (.cells (stA0 3600 false) 28)
  have i3 := (i2.call hb3).alloc (.cells (stA0 3600 false) 28)
  clear x1 y1 i2 hb3
  have y3 := y2.alloc (.cells #[.int .i64 0, .int .i64 3600, .bool false] 61)
  have s3 := blk_at (w3.alloc (.cells (stA0 3600 false) 28)) 61 #[.int .i64 0, .int .i64 3600, .bool false] (sz1 _ _ rfl)
  have i4 := i3.alloc (.cells #[.int .i64 0, .int .i64 3600, .bool false] 61)
  have hg := (i3.2.size : w.heap.size ≤ _)
  rw [sz1 w3 _ rfl] at hg
  have c0 := y3.cell 0; have c1 := y3.cell 1; simp at c0 c1
  unfold stA0 at c0 c1 s3 i4
  clear y2 i3 y3
  go_wp2_with fail
  generalize (w3.alloc (.cells #[.int .i64 3600, .bool false, .string ⟨#[]⟩] 28)).alloc (.cells #[.int .i64 0, .int .i64 3600, .bool false] 61) = W at *
  clear c0 c1
  go_loopw [11, 63] (fun l i w' => ∃ k : Nat, i = .int .i64 k ∧ k ≤ 2 ∧ l = .slice (some ⟨w3.heap.size + 1, 0, none⟩) 1 1 ∧ w' = W) (fun _ i _ => 2 - (intOf i).toNat)
  case atStart => exact ⟨0, rfl, by decide, rfl, rfl⟩
  case round =>
    obtain ⟨k, rfl, hk, rfl, rfl⟩ := hrel
    have hk3 : k = 0 ∨ k = 1 ∨ k = 2 := by omega
    rcases hk3 with rfl | rfl | rfl
    · have hpt := ix_0
      go_wp2
      go_roundw
      case rel => exact ⟨1, by go_num, by decide, rfl, trivial⟩
      case measure => simp [intOf]
    · have hpt := ix_1
      go_wp2
      go_roundw
      case rel => exact ⟨2, by go_num, by decide, rfl, trivial⟩
      case measure => simp [intOf]
    · go_wp2
      go_ret2
      exact ⟨_, rfl, s3, by omega, i4.2⟩
abbrev spX : Array Value := #[.int .i64 0, .int .i64 3600, .bool false]
set_option maxRecDepth 20000 in
set_option maxHeartbeats 3200000 in
theorem same_x {w : World} {g h : Nat} (x : Blk w g 61 spX) (y : Blk w h 61 spX) :
    Calls Tryd.prog 34 #[.slice (some ⟨g, 0, none⟩) 1 1, .slice (some ⟨h, 0, none⟩) 1 1] w fun e w' => e = .returned (.bool true) ∧ Below w.heap.size w w' := by
  go_enter Tryd.func34, Tryd.ntmps34
  go_wp2_with fail
  go_loopw [13] (fun i w' => ∃ k : Nat, i = .int .i64 k ∧ k ≤ 1 ∧ Below w.heap.size w w') (fun i _ => 1 - (intOf i).toNat)
  case atStart => exact ⟨0, rfl, by decide, Below.refl _ _⟩
  case round =>
    obtain ⟨k, rfl, hk, hb⟩ := hrel
    have hk3 : k = 0 ∨ k = 1 := by omega
    rcases hk3 with rfl | rfl
    · have xw := x.below hb x.lt
      have yw := y.below hb y.lt
      have c0 := xw.cell 0; have c1 := xw.cell 1; have c2 := xw.cell 2; simp at c0 c1 c2
      have d0 := yw.cell 0; have d1 := yw.cell 1; have d2 := yw.cell 2; simp at d0 d1 d2
      go_wp2
      go_quiet (fail)
      go_wp2
      exact ⟨⟨1, by go_num, by decide, bdrewN hb _⟩, by simp [intOf]⟩
    · go_wp2
      go_ret
      exact ⟨rfl, hb⟩
set_option maxRecDepth 20000 in
set_option maxHeartbeats 3200000 in
theorem chkl_x {w : World} {a : Option Addr} {c : Nat} :
    Calls Tryd.prog 69 #[.slice a 1 c] w fun e w' => e = .returned (.int .i64 0) ∧ w' = w := by
  go_enter Tryd.func69, Tryd.ntmps69
  go_wp2_with fail
  go_loopw [3] (fun i w' => i = .int .i64 1 ∧ w' = w) (fun i _ => 1 - (intOf i).toNat)
  case atStart => exact ⟨rfl, rfl⟩
  case round =>
    obtain ⟨rfl, rfl⟩ := hrel
    go_wp2
    go_ret
    exact ⟨rfl, rfl⟩
set_option maxRecDepth 20000 in
set_option maxHeartbeats 3200000 in
theorem begins11_any (w : World) (hT : Tab w) :
    Calls Tryd.prog 39 #[] w fun e w' => e = .returned (.bool true) ∧ Below w.heap.size w w' := by
  have i0 := Civ.Inv.start hT
  go_enter Tryd.func39, Tryd.ntmps39
  go_wp2_with fail
  refine (spans_x i0.1).mono ?_; rintro e w1 ⟨g, rfl, x1, hgw, hb1⟩
  have i1 := i0.call hb1
  have x2 := x1.alloc (.cells spX 61)
  have y2 := Blk.new w1 61 spX
  have i2 := i1.alloc (.cells spX 61)
  go_wp2_with fail
  refine (same_x x2 y2).mono ?_; rintro e w2 ⟨rfl, hb2⟩
  have i3 := i2.call hb2
  go_wp2_with fail
  refine chkl_x.mono ?_; rintro e w3 ⟨rfl, rfl⟩
  go_wp2_with fail
  go_ret
  exact ⟨rfl, i3.2⟩
end Go.Proofs.YtoeeoglddhhdiaaDoor.Yr
