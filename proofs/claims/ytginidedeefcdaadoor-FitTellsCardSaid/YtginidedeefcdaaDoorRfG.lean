/-
  FIT, THE REFERENCE, walked: its Year.
-/
import Derived.Test.YtginidedeefcdaaDoorRfF
namespace Go.Proofs.YtginidedeefcdaaDoor.Ft
open Go.ChangeShapes Go.WideShapes Go.ChangeAt Go.RowKit
open Go.Proofs.YtginidedeefcdaaDoor
open Go.Proofs.YtginidedeefcdaaDoor.Wd
open Go.Proofs.YtginidedeefcdaaDoor.Rec
open Go.Proofs.YtginidedeefcdaaDoor.Yr
open Go.Proofs.YtginidedeefcdaaDoor.Tb
open Go.Proofs.YtginidedeefcdaaDoor.Clk (yrV yrE)
open Go.Proofs.YtginidedeefcdaaDoor.Civ (Tab Inv dateE)
set_option linter.unusedVariables false
set_option maxRecDepth 100000 in
set_option maxHeartbeats 6400000 in
theorem ryear_out (A : Option Addr) (n c : Nat) (l : List Sp) (Y : Int) (p q : St) (w : World) (hT : Tab w) (hs : Spans w w.heap.size A n l)
    (hen : ∀ w, Tab w → Calls Tryd.prog 18 #[.int .i64 Y] w fun e w' => e = .returned (.tuple #[.agg (sA p), .agg (sA q), .int .i64 1]) ∧ Below w.heap.size w w') :
    Calls Tryd.prog 14 #[.slice A n c, .int .i64 Y] w fun e w' => e = .returned (.tuple #[Rc.nil.V, .int .u8 0, .int .i64 1]) ∧ Below w.heap.size w w' := by
  have i0 := Inv.start hT
  have i1 := i0.alloc (.cells z19 28)
  have x1 := Blk.new w 28 z19
  have hsA := Lib.hid (fun (W : World) (h : Below w.heap.size w W) => hs.below h)
  clear hs
  unfold z19 at x1 i1
  go_enter Tryd.func14, Tryd.ntmps14
  go_wp2_with fail
  refine (hen _ i1.1).mono ?_; rintro e w1 ⟨rfl, hb1⟩
  have i2 := i1.call hb1
  have x2 := x1.below hb1 x1.lt
  have zl2 : w.heap.size < w1.heap.size := x2.lt
  have i3 := (i2.alloc (.cells #[.int .u16 0, .int .u16 0, .int .u16 0, .int .u16 0, .int .u16 0, .int .u16 0, .int .u16 0, .int .u16 0] 26)).alloc (.cells #[.int .u16 0, .int .u16 0, .int .u16 0, .int .u16 0, .int .u16 0, .int .u16 0, .int .u16 0, .int .u16 0] 26)
  have x3 := (x2.alloc (.cells #[.int .u16 0, .int .u16 0, .int .u16 0, .int .u16 0, .int .u16 0, .int .u16 0, .int .u16 0, .int .u16 0] 26)).alloc (.cells #[.int .u16 0, .int .u16 0, .int .u16 0, .int .u16 0, .int .u16 0, .int .u16 0, .int .u16 0, .int .u16 0] 26)
  have a3 := (Blk.new w1 26 #[.int .u16 0, .int .u16 0, .int .u16 0, .int .u16 0, .int .u16 0, .int .u16 0, .int .u16 0, .int .u16 0]).alloc (.cells #[.int .u16 0, .int .u16 0, .int .u16 0, .int .u16 0, .int .u16 0, .int .u16 0, .int .u16 0, .int .u16 0] 26)
  have b3 : Blk ((w1.alloc (.cells #[.int .u16 0, .int .u16 0, .int .u16 0, .int .u16 0, .int .u16 0, .int .u16 0, .int .u16 0, .int .u16 0] 26)).alloc (.cells #[.int .u16 0, .int .u16 0, .int .u16 0, .int .u16 0, .int .u16 0, .int .u16 0, .int .u16 0, .int .u16 0] 26)) (w1.heap.size + 1) 26 #[.int .u16 0, .int .u16 0, .int .u16 0, .int .u16 0, .int .u16 0, .int .u16 0, .int .u16 0, .int .u16 0] := blk_at _ _ _ (sz1 w1 _ rfl)
  have b4 := Blk.rowFar b3 (show w1.heap.size + 1 ≠ w1.heap.size by omega) #[.int .u16 p.y, .int .u16 p.m, .int .u16 p.v, .int .u16 p.d, .int .u16 p.h, .int .u16 p.i, .int .u16 p.s, .int .u16 p.u]
  have x4 := Blk.rowFar x3 (show w.heap.size ≠ w1.heap.size by omega) #[.int .u16 p.y, .int .u16 p.m, .int .u16 p.v, .int .u16 p.d, .int .u16 p.h, .int .u16 p.i, .int .u16 p.s, .int .u16 p.u]
  have x5 := Blk.rowFar x4 (show w.heap.size ≠ w1.heap.size + 1 by omega) #[.int .u16 q.y, .int .u16 q.m, .int .u16 q.v, .int .u16 q.d, .int .u16 q.h, .int .u16 q.i, .int .u16 q.s, .int .u16 q.u]
  have i5 : Inv w ((((w1.alloc (.cells #[.int .u16 0, .int .u16 0, .int .u16 0, .int .u16 0, .int .u16 0, .int .u16 0, .int .u16 0, .int .u16 0] 26)).alloc (.cells #[.int .u16 0, .int .u16 0, .int .u16 0, .int .u16 0, .int .u16 0, .int .u16 0, .int .u16 0, .int .u16 0] 26)).setRow w1.heap.size #[.int .u16 p.y, .int .u16 p.m, .int .u16 p.v, .int .u16 p.d, .int .u16 p.h, .int .u16 p.i, .int .u16 p.s, .int .u16 p.u]).setRow (w1.heap.size + 1) #[.int .u16 q.y, .int .u16 q.m, .int .u16 q.v, .int .u16 q.d, .int .u16 q.h, .int .u16 q.i, .int .u16 q.s, .int .u16 q.u]) := inv_of hT (below_row (below_row i3.2 (by omega) _) (by omega) _)
  clear hen hb1 i2 x2 i3 x4 i1 x1 i0
  go_upto_region 3 with (first
    | refine wpList_store_g rfl 26 _ _ rfl rfl _ 0 #[.int .u16 p.y, .int .u16 p.m, .int .u16 p.v, .int .u16 p.d, .int .u16 p.h, .int .u16 p.i, .int .u16 p.s, .int .u16 p.u] #[.int .u16 p.y, .int .u16 p.m, .int .u16 p.v, .int .u16 p.d, .int .u16 p.h, .int .u16 p.i, .int .u16 p.s, .int .u16 p.u] rfl rfl _ _ a3 (by show 0 + 8 ≤ 8; decide) (by kernel_rfl) (by kernel_rfl) (by kernel_rfl) ?_
    | refine wpList_store_g rfl 26 _ _ rfl rfl _ 0 #[.int .u16 q.y, .int .u16 q.m, .int .u16 q.v, .int .u16 q.d, .int .u16 q.h, .int .u16 q.i, .int .u16 q.s, .int .u16 q.u] #[.int .u16 q.y, .int .u16 q.m, .int .u16 q.v, .int .u16 q.d, .int .u16 q.h, .int .u16 q.i, .int .u16 q.s, .int .u16 q.u] rfl rfl _ _ b4 (by show 0 + 8 ≤ 8; decide) (by kernel_rfl) (by kernel_rfl) (by kernel_rfl) ?_)
  clear a3 b3 b4
  generalize ((((w1.alloc (.cells #[.int .u16 0, .int .u16 0, .int .u16 0, .int .u16 0, .int .u16 0, .int .u16 0, .int .u16 0, .int .u16 0] 26)).alloc (.cells #[.int .u16 0, .int .u16 0, .int .u16 0, .int .u16 0, .int .u16 0, .int .u16 0, .int .u16 0, .int .u16 0] 26)).setRow w1.heap.size #[.int .u16 p.y, .int .u16 p.m, .int .u16 p.v, .int .u16 p.d, .int .u16 p.h, .int .u16 p.i, .int .u16 p.s, .int .u16 p.u]).setRow (w1.heap.size + 1) #[.int .u16 q.y, .int .u16 q.m, .int .u16 q.v, .int .u16 q.d, .int .u16 q.h, .int .u16 q.i, .int .u16 q.s, .int .u16 q.u]) = W5 at *
  go_wp2_with (refine wpList_store_g rfl 28 _ _ rfl rfl _ 0 z19 z19 rfl rfl _ _ x5 (by show 0 + 19 ≤ 19; decide) (by kernel_rfl) (by kernel_rfl) (by kernel_rfl) ?_)
  exact bodyPost_ret (res_ctt rfl _ _ _ _ z19 _ _ _ rfl rfl rfl (Blk.row x5 _) Tryd.underlying28 rfl (by kernel_rfl)) rfl ⟨rfl, below_row i5.2 (Nat.le_refl _) _⟩
set_option maxRecDepth 100000 in
set_option maxHeartbeats 6400000 in
theorem ryear_bad (A : Option Addr) (n c : Nat) (l : List Sp) (Y : Int) (p q : St) (w : World) (hT : Tab w) (hs : Spans w w.heap.size A n l)
    (hen : ∀ w, Tab w → Calls Tryd.prog 18 #[.int .i64 Y] w fun e w' => e = .returned (.tuple #[.agg (sA p), .agg (sA q), .int .i64 0]) ∧ Below w.heap.size w w')
    (his : ∀ w, Spans w w.heap.size A n l → Calls Tryd.prog 44 #[.slice A n c, .int .i64 Y] w fun e w' => e = .returned (.bool false) ∧ Below w.heap.size w w') :
    Calls Tryd.prog 14 #[.slice A n c, .int .i64 Y] w fun e w' => e = .returned (.tuple #[Rc.nil.V, .int .u8 0, .int .i64 2]) ∧ Below w.heap.size w w' := by
  have i0 := Inv.start hT
  have i1 := i0.alloc (.cells z19 28)
  have x1 := Blk.new w 28 z19
  have hsA := Lib.hid (fun (W : World) (h : Below w.heap.size w W) => hs.below h)
  clear hs
  unfold z19 at x1 i1
  go_enter Tryd.func14, Tryd.ntmps14
  go_wp2_with fail
  refine (hen _ i1.1).mono ?_; rintro e w1 ⟨rfl, hb1⟩
  have i2 := i1.call hb1
  have x2 := x1.below hb1 x1.lt
  have zl2 : w.heap.size < w1.heap.size := x2.lt
  have i3 := (i2.alloc (.cells #[.int .u16 0, .int .u16 0, .int .u16 0, .int .u16 0, .int .u16 0, .int .u16 0, .int .u16 0, .int .u16 0] 26)).alloc (.cells #[.int .u16 0, .int .u16 0, .int .u16 0, .int .u16 0, .int .u16 0, .int .u16 0, .int .u16 0, .int .u16 0] 26)
  have x3 := (x2.alloc (.cells #[.int .u16 0, .int .u16 0, .int .u16 0, .int .u16 0, .int .u16 0, .int .u16 0, .int .u16 0, .int .u16 0] 26)).alloc (.cells #[.int .u16 0, .int .u16 0, .int .u16 0, .int .u16 0, .int .u16 0, .int .u16 0, .int .u16 0, .int .u16 0] 26)
  have a3 := (Blk.new w1 26 #[.int .u16 0, .int .u16 0, .int .u16 0, .int .u16 0, .int .u16 0, .int .u16 0, .int .u16 0, .int .u16 0]).alloc (.cells #[.int .u16 0, .int .u16 0, .int .u16 0, .int .u16 0, .int .u16 0, .int .u16 0, .int .u16 0, .int .u16 0] 26)
  have b3 : Blk ((w1.alloc (.cells #[.int .u16 0, .int .u16 0, .int .u16 0, .int .u16 0, .int .u16 0, .int .u16 0, .int .u16 0, .int .u16 0] 26)).alloc (.cells #[.int .u16 0, .int .u16 0, .int .u16 0, .int .u16 0, .int .u16 0, .int .u16 0, .int .u16 0, .int .u16 0] 26)) (w1.heap.size + 1) 26 #[.int .u16 0, .int .u16 0, .int .u16 0, .int .u16 0, .int .u16 0, .int .u16 0, .int .u16 0, .int .u16 0] := blk_at _ _ _ (sz1 w1 _ rfl)
  have b4 := Blk.rowFar b3 (show w1.heap.size + 1 ≠ w1.heap.size by omega) #[.int .u16 p.y, .int .u16 p.m, .int .u16 p.v, .int .u16 p.d, .int .u16 p.h, .int .u16 p.i, .int .u16 p.s, .int .u16 p.u]
  have x4 := Blk.rowFar x3 (show w.heap.size ≠ w1.heap.size by omega) #[.int .u16 p.y, .int .u16 p.m, .int .u16 p.v, .int .u16 p.d, .int .u16 p.h, .int .u16 p.i, .int .u16 p.s, .int .u16 p.u]
  have x5 := Blk.rowFar x4 (show w.heap.size ≠ w1.heap.size + 1 by omega) #[.int .u16 q.y, .int .u16 q.m, .int .u16 q.v, .int .u16 q.d, .int .u16 q.h, .int .u16 q.i, .int .u16 q.s, .int .u16 q.u]
  have i5 : Inv w ((((w1.alloc (.cells #[.int .u16 0, .int .u16 0, .int .u16 0, .int .u16 0, .int .u16 0, .int .u16 0, .int .u16 0, .int .u16 0] 26)).alloc (.cells #[.int .u16 0, .int .u16 0, .int .u16 0, .int .u16 0, .int .u16 0, .int .u16 0, .int .u16 0, .int .u16 0] 26)).setRow w1.heap.size #[.int .u16 p.y, .int .u16 p.m, .int .u16 p.v, .int .u16 p.d, .int .u16 p.h, .int .u16 p.i, .int .u16 p.s, .int .u16 p.u]).setRow (w1.heap.size + 1) #[.int .u16 q.y, .int .u16 q.m, .int .u16 q.v, .int .u16 q.d, .int .u16 q.h, .int .u16 q.i, .int .u16 q.s, .int .u16 q.u]) := inv_of hT (below_row (below_row i3.2 (by omega) _) (by omega) _)
  clear hen hb1 i2 x2 i3 x4 i1 x1 i0
  go_upto_region 4 with (first
    | refine wpList_store_g rfl 26 _ _ rfl rfl _ 0 #[.int .u16 p.y, .int .u16 p.m, .int .u16 p.v, .int .u16 p.d, .int .u16 p.h, .int .u16 p.i, .int .u16 p.s, .int .u16 p.u] #[.int .u16 p.y, .int .u16 p.m, .int .u16 p.v, .int .u16 p.d, .int .u16 p.h, .int .u16 p.i, .int .u16 p.s, .int .u16 p.u] rfl rfl _ _ a3 (by show 0 + 8 ≤ 8; decide) (by kernel_rfl) (by kernel_rfl) (by kernel_rfl) ?_
    | refine wpList_store_g rfl 26 _ _ rfl rfl _ 0 #[.int .u16 q.y, .int .u16 q.m, .int .u16 q.v, .int .u16 q.d, .int .u16 q.h, .int .u16 q.i, .int .u16 q.s, .int .u16 q.u] #[.int .u16 q.y, .int .u16 q.m, .int .u16 q.v, .int .u16 q.d, .int .u16 q.h, .int .u16 q.i, .int .u16 q.s, .int .u16 q.u] rfl rfl _ _ b4 (by show 0 + 8 ≤ 8; decide) (by kernel_rfl) (by kernel_rfl) (by kernel_rfl) ?_)
  clear a3 b3 b4
  generalize ((((w1.alloc (.cells #[.int .u16 0, .int .u16 0, .int .u16 0, .int .u16 0, .int .u16 0, .int .u16 0, .int .u16 0, .int .u16 0] 26)).alloc (.cells #[.int .u16 0, .int .u16 0, .int .u16 0, .int .u16 0, .int .u16 0, .int .u16 0, .int .u16 0, .int .u16 0] 26)).setRow w1.heap.size #[.int .u16 p.y, .int .u16 p.m, .int .u16 p.v, .int .u16 p.d, .int .u16 p.h, .int .u16 p.i, .int .u16 p.s, .int .u16 p.u]).setRow (w1.heap.size + 1) #[.int .u16 q.y, .int .u16 q.m, .int .u16 q.v, .int .u16 q.d, .int .u16 q.h, .int .u16 q.i, .int .u16 q.s, .int .u16 q.u]) = W5 at *
  have hs5 := (hsA.out _ i5.2).more i5.2.size
  go_wp2_with fail
  refine (his _ hs5).mono ?_; rintro e w6 ⟨rfl, hb6⟩
  have i6 := i5.call hb6
  have x6 := x5.below hb6 x5.lt
  clear i5 x5 hb6 hs5 his
  go_wp2_with (refine wpList_store_g rfl 28 _ _ rfl rfl _ 0 z19 z19 rfl rfl _ _ x6 (by show 0 + 19 ≤ 19; decide) (by kernel_rfl) (by kernel_rfl) (by kernel_rfl) ?_)
  exact bodyPost_ret (res_ctt rfl _ _ _ _ z19 _ _ _ rfl rfl rfl (Blk.row x6 _) Tryd.underlying28 rfl (by kernel_rfl)) rfl ⟨rfl, below_row i6.2 (Nat.le_refl _) _⟩
set_option maxRecDepth 100000 in
set_option maxHeartbeats 6400000 in
theorem ryear_why (A : Option Addr) (n c : Nat) (l : List Sp) (Y : Int) (p q : St) (y : Int) (hy : y ≠ 0) (w : World) (hT : Tab w) (hs : Spans w w.heap.size A n l)
    (hen : ∀ w, Tab w → Calls Tryd.prog 18 #[.int .i64 Y] w fun e w' => e = .returned (.tuple #[.agg (sA p), .agg (sA q), .int .i64 0]) ∧ Below w.heap.size w w')
    (his : ∀ w, Spans w w.heap.size A n l → Calls Tryd.prog 44 #[.slice A n c, .int .i64 Y] w fun e w' => e = .returned (.bool true) ∧ Below w.heap.size w w')
    (hwy : ∀ w, Spans w w.heap.size A n l → Calls Tryd.prog 45 #[.slice A n c, .int .i64 Y] w fun e w' => e = .returned (.int .u8 y) ∧ Below w.heap.size w w') :
    Calls Tryd.prog 14 #[.slice A n c, .int .i64 Y] w fun e w' => e = .returned (.tuple #[Rc.nil.V, .int .u8 y, .int .i64 0]) ∧ Below w.heap.size w w' := by
  have hyb : (y != 0) = true := by rw [bne_iff_ne]; exact hy
  have i0 := Inv.start hT
  have i1 := i0.alloc (.cells z19 28)
  have x1 := Blk.new w 28 z19
  have hsA := Lib.hid (fun (W : World) (h : Below w.heap.size w W) => hs.below h)
  clear hs
  unfold z19 at x1 i1
  go_enter Tryd.func14, Tryd.ntmps14
  go_wp2_with fail
  refine (hen _ i1.1).mono ?_; rintro e w1 ⟨rfl, hb1⟩
  have i2 := i1.call hb1
  have x2 := x1.below hb1 x1.lt
  have zl2 : w.heap.size < w1.heap.size := x2.lt
  have i3 := (i2.alloc (.cells #[.int .u16 0, .int .u16 0, .int .u16 0, .int .u16 0, .int .u16 0, .int .u16 0, .int .u16 0, .int .u16 0] 26)).alloc (.cells #[.int .u16 0, .int .u16 0, .int .u16 0, .int .u16 0, .int .u16 0, .int .u16 0, .int .u16 0, .int .u16 0] 26)
  have x3 := (x2.alloc (.cells #[.int .u16 0, .int .u16 0, .int .u16 0, .int .u16 0, .int .u16 0, .int .u16 0, .int .u16 0, .int .u16 0] 26)).alloc (.cells #[.int .u16 0, .int .u16 0, .int .u16 0, .int .u16 0, .int .u16 0, .int .u16 0, .int .u16 0, .int .u16 0] 26)
  have a3 := (Blk.new w1 26 #[.int .u16 0, .int .u16 0, .int .u16 0, .int .u16 0, .int .u16 0, .int .u16 0, .int .u16 0, .int .u16 0]).alloc (.cells #[.int .u16 0, .int .u16 0, .int .u16 0, .int .u16 0, .int .u16 0, .int .u16 0, .int .u16 0, .int .u16 0] 26)
  have b3 : Blk ((w1.alloc (.cells #[.int .u16 0, .int .u16 0, .int .u16 0, .int .u16 0, .int .u16 0, .int .u16 0, .int .u16 0, .int .u16 0] 26)).alloc (.cells #[.int .u16 0, .int .u16 0, .int .u16 0, .int .u16 0, .int .u16 0, .int .u16 0, .int .u16 0, .int .u16 0] 26)) (w1.heap.size + 1) 26 #[.int .u16 0, .int .u16 0, .int .u16 0, .int .u16 0, .int .u16 0, .int .u16 0, .int .u16 0, .int .u16 0] := blk_at _ _ _ (sz1 w1 _ rfl)
  have b4 := Blk.rowFar b3 (show w1.heap.size + 1 ≠ w1.heap.size by omega) #[.int .u16 p.y, .int .u16 p.m, .int .u16 p.v, .int .u16 p.d, .int .u16 p.h, .int .u16 p.i, .int .u16 p.s, .int .u16 p.u]
  have x4 := Blk.rowFar x3 (show w.heap.size ≠ w1.heap.size by omega) #[.int .u16 p.y, .int .u16 p.m, .int .u16 p.v, .int .u16 p.d, .int .u16 p.h, .int .u16 p.i, .int .u16 p.s, .int .u16 p.u]
  have x5 := Blk.rowFar x4 (show w.heap.size ≠ w1.heap.size + 1 by omega) #[.int .u16 q.y, .int .u16 q.m, .int .u16 q.v, .int .u16 q.d, .int .u16 q.h, .int .u16 q.i, .int .u16 q.s, .int .u16 q.u]
  have i5 : Inv w ((((w1.alloc (.cells #[.int .u16 0, .int .u16 0, .int .u16 0, .int .u16 0, .int .u16 0, .int .u16 0, .int .u16 0, .int .u16 0] 26)).alloc (.cells #[.int .u16 0, .int .u16 0, .int .u16 0, .int .u16 0, .int .u16 0, .int .u16 0, .int .u16 0, .int .u16 0] 26)).setRow w1.heap.size #[.int .u16 p.y, .int .u16 p.m, .int .u16 p.v, .int .u16 p.d, .int .u16 p.h, .int .u16 p.i, .int .u16 p.s, .int .u16 p.u]).setRow (w1.heap.size + 1) #[.int .u16 q.y, .int .u16 q.m, .int .u16 q.v, .int .u16 q.d, .int .u16 q.h, .int .u16 q.i, .int .u16 q.s, .int .u16 q.u]) := inv_of hT (below_row (below_row i3.2 (by omega) _) (by omega) _)
  clear hen hb1 i2 x2 i3 x4 i1 x1 i0
  go_upto_region 4 with (first
    | refine wpList_store_g rfl 26 _ _ rfl rfl _ 0 #[.int .u16 p.y, .int .u16 p.m, .int .u16 p.v, .int .u16 p.d, .int .u16 p.h, .int .u16 p.i, .int .u16 p.s, .int .u16 p.u] #[.int .u16 p.y, .int .u16 p.m, .int .u16 p.v, .int .u16 p.d, .int .u16 p.h, .int .u16 p.i, .int .u16 p.s, .int .u16 p.u] rfl rfl _ _ a3 (by show 0 + 8 ≤ 8; decide) (by kernel_rfl) (by kernel_rfl) (by kernel_rfl) ?_
    | refine wpList_store_g rfl 26 _ _ rfl rfl _ 0 #[.int .u16 q.y, .int .u16 q.m, .int .u16 q.v, .int .u16 q.d, .int .u16 q.h, .int .u16 q.i, .int .u16 q.s, .int .u16 q.u] #[.int .u16 q.y, .int .u16 q.m, .int .u16 q.v, .int .u16 q.d, .int .u16 q.h, .int .u16 q.i, .int .u16 q.s, .int .u16 q.u] rfl rfl _ _ b4 (by show 0 + 8 ≤ 8; decide) (by kernel_rfl) (by kernel_rfl) (by kernel_rfl) ?_)
  clear a3 b3 b4
  generalize ((((w1.alloc (.cells #[.int .u16 0, .int .u16 0, .int .u16 0, .int .u16 0, .int .u16 0, .int .u16 0, .int .u16 0, .int .u16 0] 26)).alloc (.cells #[.int .u16 0, .int .u16 0, .int .u16 0, .int .u16 0, .int .u16 0, .int .u16 0, .int .u16 0, .int .u16 0] 26)).setRow w1.heap.size #[.int .u16 p.y, .int .u16 p.m, .int .u16 p.v, .int .u16 p.d, .int .u16 p.h, .int .u16 p.i, .int .u16 p.s, .int .u16 p.u]).setRow (w1.heap.size + 1) #[.int .u16 q.y, .int .u16 q.m, .int .u16 q.v, .int .u16 q.d, .int .u16 q.h, .int .u16 q.i, .int .u16 q.s, .int .u16 q.u]) = W5 at *
  have hs5 := (hsA.out _ i5.2).more i5.2.size
  go_wp2_with fail
  refine (his _ hs5).mono ?_; rintro e w6 ⟨rfl, hb6⟩
  have i6 := i5.call hb6
  have x6 := x5.below hb6 x5.lt
  clear i5 x5 hb6 hs5 his
  have hs6 := (hsA.out _ i6.2).more i6.2.size
  go_wp2_with fail
  refine (hwy _ hs6).mono ?_; rintro e w7 ⟨rfl, hb7⟩
  have i7 := i6.call hb7
  have x7 := x6.below hb7 x6.lt
  go_wp2_with (refine wpList_store_g rfl 28 _ _ rfl rfl _ 0 z19 z19 rfl rfl _ _ x7 (by show 0 + 19 ≤ 19; decide) (by kernel_rfl) (by kernel_rfl) (by kernel_rfl) ?_)
  exact bodyPost_ret (res_ctt rfl _ _ _ _ z19 _ _ _ rfl rfl rfl (Blk.row x7 _) Tryd.underlying28 rfl (by kernel_rfl)) rfl ⟨rfl, below_row i7.2 (Nat.le_refl _) _⟩
theorem ryear_any (A : Option Addr) (n c : Nat) (l : List Sp) (Y : Int) (w : World) (hT : Tab w) (hs : Spans w w.heap.size A n l) (hm : n ≤ maxLen) (hnc : n ≤ c) :
    Calls Tryd.prog 14 #[.slice A n c, .int .i64 Y] w fun e w' => e = .returned (.tuple #[(fyR l Y).V, .int .u8 (fyW l Y), .int .i64 (fyE l Y)]) ∧ Below w.heap.size w w' := by
  cases hY : inY Y with
  | false =>
    have e1 : fyR l Y = Rc.nil := by unfold fyR fyB; rw [hY]; rfl
    have e2 : fyW l Y = 0 := by unfold fyW; rw [hY]; rfl
    have e3 : fyE l Y = 1 := by unfold fyE; rw [hY]; rfl
    rw [e1, e2, e3]
    exact ryear_out A n c l Y St.nil St.nil w hT hs (fun w _ => rends_no Y w hY)
  | true =>
    have hYY := of_decide_eq_true hY
    obtain ⟨y1, y2⟩ := hYY
    have hen := fun w hT => rends_yes Y w hT y1 y2
    have his := fun w hs => ris_any A n c l Y w hs hm y1 y2
    have hln := hs.1
    cases hr : rgB l Y with
    | false =>
      have e1 : fyR l Y = Rc.nil := by unfold fyR fyB; rw [hY, hr]; rfl
      have e2 : fyW l Y = 0 := by unfold fyW; rw [hY, hr]; rfl
      have e3 : fyE l Y = 2 := by unfold fyE; rw [hY, hr]; rfl
      rw [e1, e2, e3]
      rw [hr] at his
      exact ryear_bad A n c l Y _ _ w hT hs hen his
    | true =>
      rw [hr] at his
      have hr' := hr
      unfold rgB at hr'
      rw [Bool.and_eq_true, decide_eq_true_iff] at hr'
      obtain ⟨hk, hf, ht⟩ := hr'
      have h0 := (lk_iff.1 hk).1
      have hbd := begY_bd (Y := Y) (by omega) y2
      have hff : ∀ k, k < n → -62135596800 ≤ (at_ l k).f ∧ (at_ l k).f ≤ 253402300800 := fun k hk' => by
        have := mono_f hk k (by omega)
        omega
      have hw := fun w hs => rwhy_any A n c l Y (begY Y) (begY (Y + 1)) w hs hm hnc hff ⟨y1, y2⟩ rfl rfl
      have e3 : fyE l Y = 0 := by unfold fyE; rw [hY, hr]; rfl
      have e2 : fyW l Y = whyV l (begY Y) (begY (Y + 1)) := by unfold fyW; rw [hY, hr]; rfl
      rw [e2, e3]
      by_cases hz : whyV l (begY Y) (begY (Y + 1)) = 0
      · have e1 : fyR l Y = fitR l Y := by unfold fyR fyB; rw [hY, hr, hz]; rfl
        rw [e1, hz]
        rw [hz] at hw
        have g : Good l Y := ⟨y1, y2, hk, hf, ht, hz⟩
        have gl := g.len
        have hoff : ∀ k, k < n → -86400 ≤ (at_ l k).o ∧ (at_ l k).o ≤ 86400 := fun k hk => (g.off (by omega)).2
        have o60 : ∀ d, lastO d l 0 % 60 = 0 := by
          have : ∀ d (m : List Sp) (z : Int), (∀ s ∈ m, s.o % 60 = 0) → z % 60 = 0 → lastO d m z % 60 = 0 := by
            intro d m
            induction m with
            | nil => intro z _ hz; exact hz
            | cons s r ih =>
              intro z h hz
              unfold lastO
              refine ih _ (fun t ht => h t (List.mem_cons_of_mem _ ht)) ?_
              split
              · exact h s (List.mem_cons_self ..)
              · exact hz
          intro d
          exact this d l 0 (fun s hs => by obtain ⟨i, hi, rfl⟩ := List.getElem_of_mem hs; rw [at_eq hi]; exact (g.off hi).1) (by decide)
        have obd : ∀ d, -86400 ≤ lastO d l 0 ∧ lastO d l 0 ≤ 86400 := fun d => lastO_bd d l 0 (fun s hs => by obtain ⟨i, hi, rfl⟩ := List.getElem_of_mem hs; rw [at_eq hi]; exact (g.off hi).2) (by decide)
        have okO' : ∀ d, okO (lastO d l 0) = true := fun d => by
          have a := o60 d; have b := obd d
          unfold okO wholeM near; simp; omega
        have hfit := g.fit
        have hB := hfit.b
        have hK : rcOk (fitR l Y).b (fitR l Y).c (fitR l Y).d (fitR l Y).p (fitR l Y).q = true := hfit.ok
        have hSt : ∀ k, k + 1 < n → stAt l Y (k + 1) = (if ccV l (k + 1) = begY (Y + 1) then enB Y else fsV (ccV l (k + 1))) := fun k hk => by
          unfold stAt
          by_cases hc : ccV l (k + 1) = begY (Y + 1)
          · rw [if_pos hc, if_pos hc]
          · rw [if_neg hc, if_neg hc]
            have hcc := g.cc (k := k + 1) (by omega) (by omega)
            exact (fs_yes (fs_in y1 y2 (c := ccV l (k + 1)) hcc.1 (by omega))).1.symm
        have hcells : ∃ mkA : Array Value, (fitR l Y).V = .agg mkA ∧ mkA.size = 19 ∧ mkA.all (·.oneCell') = true := ⟨_, rfl, rfl, by kernel_rfl⟩
        obtain ⟨mkA, hmkA, hms, hm1⟩ := hcells
        rw [hmkA]
        refine ryear_good A n c l Y (begY (Y + 1)) (enA Y) (enB Y) w hT hs (by omega) (by omega) hoff hff y2 y1 hen his hw (fun w => rbegin_any (Y + 1) w (by omega) (by omega))
          fsV fsE (fun v h1 h2 w hT => rstamp_any v w hT (by omega) (by omega))
          (fun k => atK l Y false k (if 0 < lastO true l 0 then enA Y else enB Y)) (fun k => atK l Y true k (if 0 ≤ lastO false l 0 then enA Y else enB Y)) (fun k => if ccV l (k + 1) = begY (Y + 1) then enB Y else fsV (ccV l (k + 1)))
          rfl rfl (fun k hk => rfl) (fun k hk => ?_) (fun k hk => ?_) mkA 0 (fun h1 w hT => ?_) (fun h1 w hT => ?_) hms hm1
        · exact (atK_succ l Y false k _).trans (by rw [hSt k hk])
        · exact (atK_succ l Y true k _).trans (by rw [hSt k hk])
        · have hrc : fitR l Y = ⟨-(lastO false l 0 / 60), 0, (lastO false l 0 - lastO true l 0) / 60, atK l Y false (n - 1) (if 0 < lastO true l 0 then enA Y else enB Y), atK l Y true (n - 1) (if 0 ≤ lastO false l 0 then enA Y else enB Y)⟩ := by
            unfold fitR; rw [if_neg (by rw [hln]; exact h1), hln]
          rw [← hmkA]
          rw [hrc] at hB hK ⊢
          generalize atK l Y false (n - 1) (if 0 < lastO true l 0 then enA Y else enB Y) = p at *
          generalize atK l Y true (n - 1) (if 0 ≤ lastO false l 0 then enA Y else enB Y) = q at *
          have a := obd false; have b := obd true
          have := Rf.rmake_any (lastO false l 0) (lastO true l 0) p q w hT hB.p hB.q (by omega) (by omega)
          unfold mkV mkE mkOk at this
          rw [okO' false, okO' true] at this
          have hK' : rcOk (-(lastO false l 0 / 60)) 0 ((lastO false l 0 - lastO true l 0) / 60) p q = true := hK
          rw [hK'] at this
          exact this
        · obtain ⟨rfl, hd⟩ := h1
          obtain ⟨a, rfl⟩ : ∃ a, l = [a] := by
            match l, hln with
            | [a], _ => exact ⟨a, rfl⟩
          have hd' : a.d = false := hd
          have hlo : lastO false [a] 0 = a.o := by show (if a.d = false then a.o else 0) = a.o; rw [if_pos hd']
          rw [← hmkA, hlo]
          have hVf : (fitR [a] Y).V = .agg (rcA (-(a.o / 60)) 0 0 St.nil St.nil) := by unfold fitR; rw [if_pos ⟨rfl, hd'⟩]; rfl
          rw [hVf]
          have hk1 := okO' false
          rw [hlo] at hk1
          have b := obd false
          rw [hlo] at b
          have := Rf.rplain_any a.o w hT (by omega)
          unfold plV plE at this
          rw [hk1] at this
          exact this
      · have e1 : fyR l Y = Rc.nil := by
          unfold fyR fyB; rw [hY, hr]
          rw [if_neg]; intro h; simp at h; exact hz h
        rw [e1]
        exact ryear_why A n c l Y _ _ _ hz w hT hs hen his hw
end Go.Proofs.YtginidedeefcdaaDoor.Ft
