/-
  FitHolds, WALKED.
-/
import Derived.Test.YtginidedeefcdaaDoorFtV
import Derived.Test.YtginidedeefcdaaDoorFtE
import Derived.Test.YtginidedeefcdaaDoorFtA
import Derived.Test.YtginidedeefcdaaDoorFtK
namespace Go.Proofs.YtginidedeefcdaaDoor.Ft
open Go.ChangeShapes Go.WideShapes Go.ChangeAt Go.RowKit
open Go.Proofs.YtginidedeefcdaaDoor
open Go.Proofs.YtginidedeefcdaaDoor.Wd
open Go.Proofs.YtginidedeefcdaaDoor.Rec
open Go.Proofs.YtginidedeefcdaaDoor.Yr
open Go.Proofs.YtginidedeefcdaaDoor.Tb
open Go.Proofs.YtginidedeefcdaaDoor.Clk (yrV yrE)
open Go.Proofs.YtginidedeefcdaaDoor.Civ (Tab Inv)
set_option linter.unusedVariables false
set_option linter.unusedSimpArgs false
set_option maxRecDepth 100000 in
set_option maxHeartbeats 3200000 in
theorem holds_long (A : Option Addr) (n cp : Nat) (Y c : Int) (w : World) (hT : Tab w) (hm : n ≤ maxLen) (hn : (100 : Int) < (n : Int)) :
    Calls Tryd.prog 5 #[.slice A n cp, .int .i64 Y, .int .i64 c] w fun e w' => e = .returned (.bool true) ∧ Below w.heap.size w w' := by
  have i0 := Inv.start hT
  unfold maxLen at hm
  go_enter Tryd.func5, Tryd.ntmps5
  go_wp2_with fail
  refine (lives_any _ hT).mono ?_; rintro e w1 ⟨rfl, hb1⟩
  have i1 := i0.call hb1
  go_wp2_with fail
  go_ret
  exact ⟨rfl, i1.2⟩
set_option maxRecDepth 100000 in
set_option maxHeartbeats 3200000 in
theorem holds_n_err (A : Option Addr) (n cp : Nat) (l : List Sp) (Y c : Int) (w : World) (hT : Tab w) (hs : Spans w w.heap.size A n l) (hm : n ≤ maxLen) (hn : ¬ (100 : Int) < (n : Int)) (E : Int) 
    (s : St) (hst : ∀ w, Tab w → Calls Tryd.prog 15 #[.int .i64 c] w fun e w' => e = .returned (.tuple #[.agg (sA s), .int .i64 1]) ∧ Below w.heap.size w w')
    (r : Rc) (hfy : ∀ w, Tab w → Spans w w.heap.size A n l → Calls Tryd.prog 13 #[.slice A n cp, .int .i64 Y] w fun e w' => e = .returned (.tuple #[r.V, .int .u8 0, .int .i64 E]) ∧ Below w.heap.size w w')
    (hE : E ≠ 0) (hr0 : r = Rc.nil) :
    Calls Tryd.prog 5 #[.slice A n cp, .int .i64 Y, .int .i64 c] w fun e w' => e = .returned (.bool true) ∧ Below w.heap.size w w' := by
  have i0 := Inv.start hT
  unfold maxLen at hm
  have hEb : (E != 0) = true := by rw [bne_iff_ne]; exact hE
  have hEc : (E == 0) = false := by rw [beq_eq_false_iff_ne]; exact hE
  go_enter Tryd.func5, Tryd.ntmps5
  go_wp2_with fail
  refine (lives_any _ hT).mono ?_; rintro e w1 ⟨rfl, hb1⟩
  have i1 := i0.call hb1
  unfold sA at hst
  go_wp2_with fail
  refine (hst _ i1.1).mono ?_; rintro e w2 ⟨rfl, hb2⟩
  have i2 := (i1.call hb2).alloc (.cells #[.int .u16 s.y, .int .u16 s.m, .int .u16 s.v, .int .u16 s.d, .int .u16 s.h, .int .u16 s.i, .int .u16 s.s, .int .u16 s.u] 26)
  have z2 := Blk.new w2 26 #[.int .u16 s.y, .int .u16 s.m, .int .u16 s.v, .int .u16 s.d, .int .u16 s.h, .int .u16 s.i, .int .u16 s.s, .int .u16 s.u]
  go_wp2_with (refine wpList_store_new rfl 26 _ _ rfl rfl w2.heap.size #[.int .u16 s.y, .int .u16 s.m, .int .u16 s.v, .int .u16 s.d, .int .u16 s.h, .int .u16 s.i, .int .u16 s.s, .int .u16 s.u] rfl rfl _ #[.int .u16 0, .int .u16 0, .int .u16 0, .int .u16 0, .int .u16 0, .int .u16 0, .int .u16 0, .int .u16 0] w2 rfl rfl rfl (by kernel_rfl) (by kernel_rfl) ?_)
  refine (hfy _ i2.1 ((hs.below i2.2).more i2.2.size)).mono ?_; rintro e w3 ⟨rfl, hb3⟩
  have i3 := i2.call hb3
  have i6 := i3.alloc (.cells r.A 28)
  have y6 := Blk.new w3 28 r.A
  subst hr0
  have hq : ∀ w, (binOp .eql 28 (.agg Rc.nil.A) (.agg Rc.nil.A)).run Tryd.prog w = .ok (.bool true) w := fun w => (eq_rc 0 0 0 0 0 0 St.nil St.nil St.nil St.nil w).trans (by rw [show eqR 0 0 0 St.nil St.nil 0 0 0 St.nil St.nil = true by decide])
  go_wp2_with (first | refine wpList_store_new rfl 28 _ _ rfl rfl w3.heap.size Rc.nil.A rfl rfl _ #[.int .i32 0, .int .i32 0, .int .i32 0, .int .u16 0, .int .u16 0, .int .u16 0, .int .u16 0, .int .u16 0, .int .u16 0, .int .u16 0, .int .u16 0, .int .u16 0, .int .u16 0, .int .u16 0, .int .u16 0, .int .u16 0, .int .u16 0, .int .u16 0, .int .u16 0] w3 rfl rfl rfl (by kernel_rfl) (by kernel_rfl) ?_ | refine wpList_row_g rfl 28 _ rfl _ rfl _ _ _ _ y6 Tryd.underlying28 rfl (by kernel_rfl) ?_)
  go_ret
  exact ⟨rfl, i6.2⟩
set_option maxRecDepth 100000 in
set_option maxHeartbeats 3200000 in
theorem holds_n_why (A : Option Addr) (n cp : Nat) (l : List Sp) (Y c : Int) (w : World) (hT : Tab w) (hs : Spans w w.heap.size A n l) (hm : n ≤ maxLen) (hn : ¬ (100 : Int) < (n : Int)) (y : Int) 
    (s : St) (hst : ∀ w, Tab w → Calls Tryd.prog 15 #[.int .i64 c] w fun e w' => e = .returned (.tuple #[.agg (sA s), .int .i64 1]) ∧ Below w.heap.size w w')
    (r : Rc) (hfy : ∀ w, Tab w → Spans w w.heap.size A n l → Calls Tryd.prog 13 #[.slice A n cp, .int .i64 Y] w fun e w' => e = .returned (.tuple #[r.V, .int .u8 y, .int .i64 0]) ∧ Below w.heap.size w w')
    (hy : y ≠ 0) (hr0 : r = Rc.nil) :
    Calls Tryd.prog 5 #[.slice A n cp, .int .i64 Y, .int .i64 c] w fun e w' => e = .returned (.bool true) ∧ Below w.heap.size w w' := by
  have i0 := Inv.start hT
  unfold maxLen at hm
  have hyb : (y != 0) = true := by rw [bne_iff_ne]; exact hy
  have hyc : (y == 0) = false := by rw [beq_eq_false_iff_ne]; exact hy
  go_enter Tryd.func5, Tryd.ntmps5
  go_wp2_with fail
  refine (lives_any _ hT).mono ?_; rintro e w1 ⟨rfl, hb1⟩
  have i1 := i0.call hb1
  unfold sA at hst
  go_wp2_with fail
  refine (hst _ i1.1).mono ?_; rintro e w2 ⟨rfl, hb2⟩
  have i2 := (i1.call hb2).alloc (.cells #[.int .u16 s.y, .int .u16 s.m, .int .u16 s.v, .int .u16 s.d, .int .u16 s.h, .int .u16 s.i, .int .u16 s.s, .int .u16 s.u] 26)
  have z2 := Blk.new w2 26 #[.int .u16 s.y, .int .u16 s.m, .int .u16 s.v, .int .u16 s.d, .int .u16 s.h, .int .u16 s.i, .int .u16 s.s, .int .u16 s.u]
  go_wp2_with (refine wpList_store_new rfl 26 _ _ rfl rfl w2.heap.size #[.int .u16 s.y, .int .u16 s.m, .int .u16 s.v, .int .u16 s.d, .int .u16 s.h, .int .u16 s.i, .int .u16 s.s, .int .u16 s.u] rfl rfl _ #[.int .u16 0, .int .u16 0, .int .u16 0, .int .u16 0, .int .u16 0, .int .u16 0, .int .u16 0, .int .u16 0] w2 rfl rfl rfl (by kernel_rfl) (by kernel_rfl) ?_)
  refine (hfy _ i2.1 ((hs.below i2.2).more i2.2.size)).mono ?_; rintro e w3 ⟨rfl, hb3⟩
  have i3 := i2.call hb3
  have i6 := i3.alloc (.cells r.A 28)
  have y6 := Blk.new w3 28 r.A
  subst hr0
  have hq : ∀ w, (binOp .eql 28 (.agg Rc.nil.A) (.agg Rc.nil.A)).run Tryd.prog w = .ok (.bool true) w := fun w => (eq_rc 0 0 0 0 0 0 St.nil St.nil St.nil St.nil w).trans (by rw [show eqR 0 0 0 St.nil St.nil 0 0 0 St.nil St.nil = true by decide])
  go_wp2_with (first | refine wpList_store_new rfl 28 _ _ rfl rfl w3.heap.size Rc.nil.A rfl rfl _ #[.int .i32 0, .int .i32 0, .int .i32 0, .int .u16 0, .int .u16 0, .int .u16 0, .int .u16 0, .int .u16 0, .int .u16 0, .int .u16 0, .int .u16 0, .int .u16 0, .int .u16 0, .int .u16 0, .int .u16 0, .int .u16 0, .int .u16 0, .int .u16 0, .int .u16 0] w3 rfl rfl rfl (by kernel_rfl) (by kernel_rfl) ?_ | refine wpList_row_g rfl 28 _ rfl _ rfl _ _ _ _ y6 Tryd.underlying28 rfl (by kernel_rfl) ?_)
  go_ret
  exact ⟨rfl, i6.2⟩
set_option maxRecDepth 100000 in
set_option maxHeartbeats 3200000 in
theorem holds_n_good (A : Option Addr) (n cp : Nat) (l : List Sp) (Y c : Int) (w : World) (hT : Tab w) (hs : Spans w w.heap.size A n l) (hm : n ≤ maxLen) (hn : ¬ (100 : Int) < (n : Int)) 
    (s : St) (hst : ∀ w, Tab w → Calls Tryd.prog 15 #[.int .i64 c] w fun e w' => e = .returned (.tuple #[.agg (sA s), .int .i64 1]) ∧ Below w.heap.size w w')
    (r : Rc) (hfy : ∀ w, Tab w → Spans w w.heap.size A n l → Calls Tryd.prog 13 #[.slice A n cp, .int .i64 Y] w fun e w' => e = .returned (.tuple #[r.V, .int .u8 0, .int .i64 0]) ∧ Below w.heap.size w w')
    (hl : spL r Y = l) (hck : ∀ w, Tab w → Calls Tryd.prog 24 #[r.V] w fun e w' => e = .returned (.int .i64 0) ∧ Below w.heap.size w w')
    (hsp : ∀ w, Tab w → Calls Tryd.prog 23 #[r.V, .int .i64 Y] w fun e w' => ∃ g n c, e = .returned (.tuple #[.slice (some ⟨g, 0, none⟩) n c, .int .i64 0]) ∧ n = (spL r Y).length ∧ n ≤ c ∧ Reads w' w'.heap.size 3 (some ⟨g, 0, none⟩) n (flatS (spL r Y)) ∧ w.heap.size ≤ g ∧ Below w.heap.size w w') :
    Calls Tryd.prog 5 #[.slice A n cp, .int .i64 Y, .int .i64 c] w fun e w' => e = .returned (.bool true) ∧ Below w.heap.size w w' := by
  have i0 := Inv.start hT
  unfold maxLen at hm
  go_enter Tryd.func5, Tryd.ntmps5
  go_wp2_with fail
  refine (lives_any _ hT).mono ?_; rintro e w1 ⟨rfl, hb1⟩
  have i1 := i0.call hb1
  unfold sA at hst
  go_wp2_with fail
  refine (hst _ i1.1).mono ?_; rintro e w2 ⟨rfl, hb2⟩
  have i2 := (i1.call hb2).alloc (.cells #[.int .u16 s.y, .int .u16 s.m, .int .u16 s.v, .int .u16 s.d, .int .u16 s.h, .int .u16 s.i, .int .u16 s.s, .int .u16 s.u] 26)
  have z2 := Blk.new w2 26 #[.int .u16 s.y, .int .u16 s.m, .int .u16 s.v, .int .u16 s.d, .int .u16 s.h, .int .u16 s.i, .int .u16 s.s, .int .u16 s.u]
  go_wp2_with (refine wpList_store_new rfl 26 _ _ rfl rfl w2.heap.size #[.int .u16 s.y, .int .u16 s.m, .int .u16 s.v, .int .u16 s.d, .int .u16 s.h, .int .u16 s.i, .int .u16 s.s, .int .u16 s.u] rfl rfl _ #[.int .u16 0, .int .u16 0, .int .u16 0, .int .u16 0, .int .u16 0, .int .u16 0, .int .u16 0, .int .u16 0] w2 rfl rfl rfl (by kernel_rfl) (by kernel_rfl) ?_)
  refine (hfy _ i2.1 ((hs.below i2.2).more i2.2.size)).mono ?_; rintro e w3 ⟨rfl, hb3⟩
  have i3 := i2.call hb3
  have i6 := i3.alloc (.cells r.A 28)
  have y6 := Blk.new w3 28 r.A
  go_wp2_with (first | refine wpList_store_new rfl 28 _ _ rfl rfl w3.heap.size r.A rfl rfl _ #[.int .i32 0, .int .i32 0, .int .i32 0, .int .u16 0, .int .u16 0, .int .u16 0, .int .u16 0, .int .u16 0, .int .u16 0, .int .u16 0, .int .u16 0, .int .u16 0, .int .u16 0, .int .u16 0, .int .u16 0, .int .u16 0, .int .u16 0, .int .u16 0, .int .u16 0] w3 rfl rfl rfl (by kernel_rfl) (by kernel_rfl) ?_ | refine wpList_row_g rfl 28 _ rfl _ rfl _ _ _ _ y6 Tryd.underlying28 rfl (by kernel_rfl) ?_)
  refine (hsp _ i6.1).mono ?_; rintro e w7 ⟨g, n', c', rfl, hn', _, hrd, hg, hb7⟩
  have i7 := i6.call hb7
  have y7 := y6.below hb7 y6.lt
  rw [hl] at hn' hrd
  have hln := hs.1
  have en : n' = n := by omega
  subst en
  have sp7 : Spans w7 w7.heap.size (some ⟨g, 0, none⟩) n' l := ⟨hln, hrd⟩
  clear hn' hrd hg hl hln
  go_wp2_with (refine wpList_row_g rfl 28 _ rfl _ rfl _ _ _ _ y7 Tryd.underlying28 rfl (by kernel_rfl) ?_)
  refine (hck _ i7.1).mono ?_; rintro e w8 ⟨rfl, hb8⟩
  have i8 := i7.call hb8
  have sp8 := (sp7.below hb8).more hb8.size
  go_wp2_with fail
  refine (same_eq (some ⟨g, 0, none⟩) A n' c' cp l w8 sp8 ((hs.below i8.2).more i8.2.size) (by unfold maxLen; omega)).mono ?_; rintro e w9 ⟨rfl, hb9⟩
  have i9 := i8.call hb9
  go_wp2_with fail
  go_ret
  exact ⟨rfl, i9.2⟩
set_option maxRecDepth 100000 in
set_option maxHeartbeats 3200000 in
theorem holds_y_err (A : Option Addr) (n cp : Nat) (l : List Sp) (Y c : Int) (w : World) (hT : Tab w) (hs : Spans w w.heap.size A n l) (hm : n ≤ maxLen) (hn : ¬ (100 : Int) < (n : Int)) (E : Int) 
    (s : St) (Z : Int) (c1 : -62135596800 ≤ c) (c2 : c ≤ 253402300800) (hy0 : s.y = 0)
    (hst : ∀ w, Tab w → Calls Tryd.prog 15 #[.int .i64 c] w fun e w' => e = .returned (.tuple #[.agg (sA s), .int .i64 0]) ∧ Below w.heap.size w w')
    (hyr : ∀ w, Calls Tryd.prog 20 #[.int .i64 c] w fun e w' => e = .returned (.tuple #[.int .i64 Z, .int .i64 0]) ∧ Below w.heap.size w w')
    (hlc : ∀ w, Tab w → Calls Tryd.prog 22 #[.agg (sA s), .int .i64 Z] w fun e w' => e = .returned (.tuple #[.int .i64 (1000 * c), .int .i64 0]) ∧ Below w.heap.size w w')
    (r : Rc) (hfy : ∀ w, Tab w → Spans w w.heap.size A n l → Calls Tryd.prog 13 #[.slice A n cp, .int .i64 Y] w fun e w' => e = .returned (.tuple #[r.V, .int .u8 0, .int .i64 E]) ∧ Below w.heap.size w w')
    (hE : E ≠ 0) (hr0 : r = Rc.nil) :
    Calls Tryd.prog 5 #[.slice A n cp, .int .i64 Y, .int .i64 c] w fun e w' => e = .returned (.bool true) ∧ Below w.heap.size w w' := by
  have i0 := Inv.start hT
  unfold maxLen at hm
  have hEb : (E != 0) = true := by rw [bne_iff_ne]; exact hE
  have hEc : (E == 0) = false := by rw [beq_eq_false_iff_ne]; exact hE
  have HY0 := Lib.hid hy0; clear hy0
  have hmul : -9223372036854775808 ≤ 1000 * c ∧ 1000 * c ≤ 9223372036854775807 := by omega
  go_enter Tryd.func5, Tryd.ntmps5
  go_wp2_with fail
  refine (lives_any _ hT).mono ?_; rintro e w1 ⟨rfl, hb1⟩
  have i1 := i0.call hb1
  unfold sA at hst hlc
  go_wp2_with fail
  refine (hst _ i1.1).mono ?_; rintro e w2 ⟨rfl, hb2⟩
  have i2 := (i1.call hb2).alloc (.cells #[.int .u16 s.y, .int .u16 s.m, .int .u16 s.v, .int .u16 s.d, .int .u16 s.h, .int .u16 s.i, .int .u16 s.s, .int .u16 s.u] 26)
  have z2 := Blk.new w2 26 #[.int .u16 s.y, .int .u16 s.m, .int .u16 s.v, .int .u16 s.d, .int .u16 s.h, .int .u16 s.i, .int .u16 s.s, .int .u16 s.u]
  go_wp2_with (refine wpList_store_new rfl 26 _ _ rfl rfl w2.heap.size #[.int .u16 s.y, .int .u16 s.m, .int .u16 s.v, .int .u16 s.d, .int .u16 s.h, .int .u16 s.i, .int .u16 s.s, .int .u16 s.u] rfl rfl _ #[.int .u16 0, .int .u16 0, .int .u16 0, .int .u16 0, .int .u16 0, .int .u16 0, .int .u16 0, .int .u16 0] w2 rfl rfl rfl (by kernel_rfl) (by kernel_rfl) ?_)
  refine (hyr _).mono ?_; rintro e w4 ⟨rfl, hb4⟩
  have i4 := i2.call hb4
  have z4 := z2.below hb4 z2.lt
  go_wp2_with (refine wpList_row_g rfl 26 _ rfl _ rfl _ _ _ _ z4 Tryd.underlying26 rfl (by kernel_rfl) ?_)
  refine (hlc _ i4.1).mono ?_; rintro e w5 ⟨rfl, hb5⟩
  have i5 := i4.call hb5
  have z5 := z4.below hb5 z4.lt
  have k0 := z5.cell 0
  simp at k0
  rw [HY0.out] at k0
  go_wp2_with fail
  refine (hfy _ i5.1 ((hs.below i5.2).more i5.2.size)).mono ?_; rintro e w3 ⟨rfl, hb3⟩
  have i3 := i5.call hb3
  have i6 := i3.alloc (.cells r.A 28)
  have y6 := Blk.new w3 28 r.A
  subst hr0
  have hq : ∀ w, (binOp .eql 28 (.agg Rc.nil.A) (.agg Rc.nil.A)).run Tryd.prog w = .ok (.bool true) w := fun w => (eq_rc 0 0 0 0 0 0 St.nil St.nil St.nil St.nil w).trans (by rw [show eqR 0 0 0 St.nil St.nil 0 0 0 St.nil St.nil = true by decide])
  go_wp2_with (first | refine wpList_store_new rfl 28 _ _ rfl rfl w3.heap.size Rc.nil.A rfl rfl _ #[.int .i32 0, .int .i32 0, .int .i32 0, .int .u16 0, .int .u16 0, .int .u16 0, .int .u16 0, .int .u16 0, .int .u16 0, .int .u16 0, .int .u16 0, .int .u16 0, .int .u16 0, .int .u16 0, .int .u16 0, .int .u16 0, .int .u16 0, .int .u16 0, .int .u16 0] w3 rfl rfl rfl (by kernel_rfl) (by kernel_rfl) ?_ | refine wpList_row_g rfl 28 _ rfl _ rfl _ _ _ _ y6 Tryd.underlying28 rfl (by kernel_rfl) ?_)
  go_ret
  exact ⟨rfl, i6.2⟩
set_option maxRecDepth 100000 in
set_option maxHeartbeats 3200000 in
theorem holds_y_why (A : Option Addr) (n cp : Nat) (l : List Sp) (Y c : Int) (w : World) (hT : Tab w) (hs : Spans w w.heap.size A n l) (hm : n ≤ maxLen) (hn : ¬ (100 : Int) < (n : Int)) (y : Int) 
    (s : St) (Z : Int) (c1 : -62135596800 ≤ c) (c2 : c ≤ 253402300800) (hy0 : s.y = 0)
    (hst : ∀ w, Tab w → Calls Tryd.prog 15 #[.int .i64 c] w fun e w' => e = .returned (.tuple #[.agg (sA s), .int .i64 0]) ∧ Below w.heap.size w w')
    (hyr : ∀ w, Calls Tryd.prog 20 #[.int .i64 c] w fun e w' => e = .returned (.tuple #[.int .i64 Z, .int .i64 0]) ∧ Below w.heap.size w w')
    (hlc : ∀ w, Tab w → Calls Tryd.prog 22 #[.agg (sA s), .int .i64 Z] w fun e w' => e = .returned (.tuple #[.int .i64 (1000 * c), .int .i64 0]) ∧ Below w.heap.size w w')
    (r : Rc) (hfy : ∀ w, Tab w → Spans w w.heap.size A n l → Calls Tryd.prog 13 #[.slice A n cp, .int .i64 Y] w fun e w' => e = .returned (.tuple #[r.V, .int .u8 y, .int .i64 0]) ∧ Below w.heap.size w w')
    (hy : y ≠ 0) (hr0 : r = Rc.nil) :
    Calls Tryd.prog 5 #[.slice A n cp, .int .i64 Y, .int .i64 c] w fun e w' => e = .returned (.bool true) ∧ Below w.heap.size w w' := by
  have i0 := Inv.start hT
  unfold maxLen at hm
  have hyb : (y != 0) = true := by rw [bne_iff_ne]; exact hy
  have hyc : (y == 0) = false := by rw [beq_eq_false_iff_ne]; exact hy
  have HY0 := Lib.hid hy0; clear hy0
  have hmul : -9223372036854775808 ≤ 1000 * c ∧ 1000 * c ≤ 9223372036854775807 := by omega
  go_enter Tryd.func5, Tryd.ntmps5
  go_wp2_with fail
  refine (lives_any _ hT).mono ?_; rintro e w1 ⟨rfl, hb1⟩
  have i1 := i0.call hb1
  unfold sA at hst hlc
  go_wp2_with fail
  refine (hst _ i1.1).mono ?_; rintro e w2 ⟨rfl, hb2⟩
  have i2 := (i1.call hb2).alloc (.cells #[.int .u16 s.y, .int .u16 s.m, .int .u16 s.v, .int .u16 s.d, .int .u16 s.h, .int .u16 s.i, .int .u16 s.s, .int .u16 s.u] 26)
  have z2 := Blk.new w2 26 #[.int .u16 s.y, .int .u16 s.m, .int .u16 s.v, .int .u16 s.d, .int .u16 s.h, .int .u16 s.i, .int .u16 s.s, .int .u16 s.u]
  go_wp2_with (refine wpList_store_new rfl 26 _ _ rfl rfl w2.heap.size #[.int .u16 s.y, .int .u16 s.m, .int .u16 s.v, .int .u16 s.d, .int .u16 s.h, .int .u16 s.i, .int .u16 s.s, .int .u16 s.u] rfl rfl _ #[.int .u16 0, .int .u16 0, .int .u16 0, .int .u16 0, .int .u16 0, .int .u16 0, .int .u16 0, .int .u16 0] w2 rfl rfl rfl (by kernel_rfl) (by kernel_rfl) ?_)
  refine (hyr _).mono ?_; rintro e w4 ⟨rfl, hb4⟩
  have i4 := i2.call hb4
  have z4 := z2.below hb4 z2.lt
  go_wp2_with (refine wpList_row_g rfl 26 _ rfl _ rfl _ _ _ _ z4 Tryd.underlying26 rfl (by kernel_rfl) ?_)
  refine (hlc _ i4.1).mono ?_; rintro e w5 ⟨rfl, hb5⟩
  have i5 := i4.call hb5
  have z5 := z4.below hb5 z4.lt
  have k0 := z5.cell 0
  simp at k0
  rw [HY0.out] at k0
  go_wp2_with fail
  refine (hfy _ i5.1 ((hs.below i5.2).more i5.2.size)).mono ?_; rintro e w3 ⟨rfl, hb3⟩
  have i3 := i5.call hb3
  have i6 := i3.alloc (.cells r.A 28)
  have y6 := Blk.new w3 28 r.A
  subst hr0
  have hq : ∀ w, (binOp .eql 28 (.agg Rc.nil.A) (.agg Rc.nil.A)).run Tryd.prog w = .ok (.bool true) w := fun w => (eq_rc 0 0 0 0 0 0 St.nil St.nil St.nil St.nil w).trans (by rw [show eqR 0 0 0 St.nil St.nil 0 0 0 St.nil St.nil = true by decide])
  go_wp2_with (first | refine wpList_store_new rfl 28 _ _ rfl rfl w3.heap.size Rc.nil.A rfl rfl _ #[.int .i32 0, .int .i32 0, .int .i32 0, .int .u16 0, .int .u16 0, .int .u16 0, .int .u16 0, .int .u16 0, .int .u16 0, .int .u16 0, .int .u16 0, .int .u16 0, .int .u16 0, .int .u16 0, .int .u16 0, .int .u16 0, .int .u16 0, .int .u16 0, .int .u16 0] w3 rfl rfl rfl (by kernel_rfl) (by kernel_rfl) ?_ | refine wpList_row_g rfl 28 _ rfl _ rfl _ _ _ _ y6 Tryd.underlying28 rfl (by kernel_rfl) ?_)
  go_ret
  exact ⟨rfl, i6.2⟩
set_option maxRecDepth 100000 in
set_option maxHeartbeats 3200000 in
theorem holds_y_good (A : Option Addr) (n cp : Nat) (l : List Sp) (Y c : Int) (w : World) (hT : Tab w) (hs : Spans w w.heap.size A n l) (hm : n ≤ maxLen) (hn : ¬ (100 : Int) < (n : Int)) 
    (s : St) (Z : Int) (c1 : -62135596800 ≤ c) (c2 : c ≤ 253402300800) (hy0 : s.y = 0)
    (hst : ∀ w, Tab w → Calls Tryd.prog 15 #[.int .i64 c] w fun e w' => e = .returned (.tuple #[.agg (sA s), .int .i64 0]) ∧ Below w.heap.size w w')
    (hyr : ∀ w, Calls Tryd.prog 20 #[.int .i64 c] w fun e w' => e = .returned (.tuple #[.int .i64 Z, .int .i64 0]) ∧ Below w.heap.size w w')
    (hlc : ∀ w, Tab w → Calls Tryd.prog 22 #[.agg (sA s), .int .i64 Z] w fun e w' => e = .returned (.tuple #[.int .i64 (1000 * c), .int .i64 0]) ∧ Below w.heap.size w w')
    (r : Rc) (hfy : ∀ w, Tab w → Spans w w.heap.size A n l → Calls Tryd.prog 13 #[.slice A n cp, .int .i64 Y] w fun e w' => e = .returned (.tuple #[r.V, .int .u8 0, .int .i64 0]) ∧ Below w.heap.size w w')
    (hl : spL r Y = l) (hck : ∀ w, Tab w → Calls Tryd.prog 24 #[r.V] w fun e w' => e = .returned (.int .i64 0) ∧ Below w.heap.size w w')
    (hsp : ∀ w, Tab w → Calls Tryd.prog 23 #[r.V, .int .i64 Y] w fun e w' => ∃ g n c, e = .returned (.tuple #[.slice (some ⟨g, 0, none⟩) n c, .int .i64 0]) ∧ n = (spL r Y).length ∧ n ≤ c ∧ Reads w' w'.heap.size 3 (some ⟨g, 0, none⟩) n (flatS (spL r Y)) ∧ w.heap.size ≤ g ∧ Below w.heap.size w w') :
    Calls Tryd.prog 5 #[.slice A n cp, .int .i64 Y, .int .i64 c] w fun e w' => e = .returned (.bool true) ∧ Below w.heap.size w w' := by
  have i0 := Inv.start hT
  unfold maxLen at hm
  have HY0 := Lib.hid hy0; clear hy0
  have hmul : -9223372036854775808 ≤ 1000 * c ∧ 1000 * c ≤ 9223372036854775807 := by omega
  go_enter Tryd.func5, Tryd.ntmps5
  go_wp2_with fail
  refine (lives_any _ hT).mono ?_; rintro e w1 ⟨rfl, hb1⟩
  have i1 := i0.call hb1
  unfold sA at hst hlc
  go_wp2_with fail
  refine (hst _ i1.1).mono ?_; rintro e w2 ⟨rfl, hb2⟩
  have i2 := (i1.call hb2).alloc (.cells #[.int .u16 s.y, .int .u16 s.m, .int .u16 s.v, .int .u16 s.d, .int .u16 s.h, .int .u16 s.i, .int .u16 s.s, .int .u16 s.u] 26)
  have z2 := Blk.new w2 26 #[.int .u16 s.y, .int .u16 s.m, .int .u16 s.v, .int .u16 s.d, .int .u16 s.h, .int .u16 s.i, .int .u16 s.s, .int .u16 s.u]
  go_wp2_with (refine wpList_store_new rfl 26 _ _ rfl rfl w2.heap.size #[.int .u16 s.y, .int .u16 s.m, .int .u16 s.v, .int .u16 s.d, .int .u16 s.h, .int .u16 s.i, .int .u16 s.s, .int .u16 s.u] rfl rfl _ #[.int .u16 0, .int .u16 0, .int .u16 0, .int .u16 0, .int .u16 0, .int .u16 0, .int .u16 0, .int .u16 0] w2 rfl rfl rfl (by kernel_rfl) (by kernel_rfl) ?_)
  refine (hyr _).mono ?_; rintro e w4 ⟨rfl, hb4⟩
  have i4 := i2.call hb4
  have z4 := z2.below hb4 z2.lt
  go_wp2_with (refine wpList_row_g rfl 26 _ rfl _ rfl _ _ _ _ z4 Tryd.underlying26 rfl (by kernel_rfl) ?_)
  refine (hlc _ i4.1).mono ?_; rintro e w5 ⟨rfl, hb5⟩
  have i5 := i4.call hb5
  have z5 := z4.below hb5 z4.lt
  have k0 := z5.cell 0
  simp at k0
  rw [HY0.out] at k0
  go_wp2_with fail
  refine (hfy _ i5.1 ((hs.below i5.2).more i5.2.size)).mono ?_; rintro e w3 ⟨rfl, hb3⟩
  have i3 := i5.call hb3
  have i6 := i3.alloc (.cells r.A 28)
  have y6 := Blk.new w3 28 r.A
  go_wp2_with (first | refine wpList_store_new rfl 28 _ _ rfl rfl w3.heap.size r.A rfl rfl _ #[.int .i32 0, .int .i32 0, .int .i32 0, .int .u16 0, .int .u16 0, .int .u16 0, .int .u16 0, .int .u16 0, .int .u16 0, .int .u16 0, .int .u16 0, .int .u16 0, .int .u16 0, .int .u16 0, .int .u16 0, .int .u16 0, .int .u16 0, .int .u16 0, .int .u16 0] w3 rfl rfl rfl (by kernel_rfl) (by kernel_rfl) ?_ | refine wpList_row_g rfl 28 _ rfl _ rfl _ _ _ _ y6 Tryd.underlying28 rfl (by kernel_rfl) ?_)
  refine (hsp _ i6.1).mono ?_; rintro e w7 ⟨g, n', c', rfl, hn', _, hrd, hg, hb7⟩
  have i7 := i6.call hb7
  have y7 := y6.below hb7 y6.lt
  rw [hl] at hn' hrd
  have hln := hs.1
  have en : n' = n := by omega
  subst en
  have sp7 : Spans w7 w7.heap.size (some ⟨g, 0, none⟩) n' l := ⟨hln, hrd⟩
  clear hn' hrd hg hl hln
  go_wp2_with (refine wpList_row_g rfl 28 _ rfl _ rfl _ _ _ _ y7 Tryd.underlying28 rfl (by kernel_rfl) ?_)
  refine (hck _ i7.1).mono ?_; rintro e w8 ⟨rfl, hb8⟩
  have i8 := i7.call hb8
  have sp8 := (sp7.below hb8).more hb8.size
  go_wp2_with fail
  refine (same_eq (some ⟨g, 0, none⟩) A n' c' cp l w8 sp8 ((hs.below i8.2).more i8.2.size) (by unfold maxLen; omega)).mono ?_; rintro e w9 ⟨rfl, hb9⟩
  have i9 := i8.call hb9
  go_wp2_with fail
  go_ret
  exact ⟨rfl, i9.2⟩
theorem holds_any (A : Option Addr) (n cp : Nat) (l : List Sp) (Y c : Int) (w : World) (hT : Tab w) (hs : Spans w w.heap.size A n l) (hm : n ≤ maxLen) (hnc : n ≤ cp) (h1 : -9223372036854775808 ≤ c) (h2 : c ≤ 9223372036854775807) :
    Calls Tryd.prog 5 #[.slice A n cp, .int .i64 Y, .int .i64 c] w fun e w' => e = .returned (.bool true) ∧ Below w.heap.size w w' := by
  by_cases hn : (100 : Int) < (n : Int)
  · exact holds_long A n cp Y c w hT hm hn
  have hfy := fun w hT hs => year_any A n cp l Y w hT hs hm hnc
  have hst := fun w hT => stamp_any c w hT h1 h2
  cases hc : fsOk c with
  | false =>
    obtain ⟨a1, a2⟩ := fs_no hc
    simp only [a1, a2] at hst
    rcases fy_cases l Y with ⟨e, y, r⟩ | ⟨e, y, r⟩ | ⟨e, y, r, g⟩
    · simp only [y, r] at hfy
      exact holds_n_err A n cp l Y c w hT hs hm hn _ _ hst _ hfy e rfl
    · simp only [e, r] at hfy
      exact holds_n_why A n cp l Y c w hT hs hm hn _ _ hst _ hfy y rfl
    · simp only [e, y, r] at hfy
      have ft := g.fit
      exact holds_n_good A n cp l Y c w hT hs hm hn _ hst _ hfy ft.sp (fun w hT => by have := chk_any _ _ _ _ _ w hT ft.b; unfold rcE at this; rw [if_pos ft.ok] at this; exact this) (fun w hT => spans_yes _ Y w hT ft.b ft.ok g.y1 g.y2)
  | true =>
    obtain ⟨a1, a2⟩ := fs_yes hc
    simp only [a1, a2] at hst
    obtain ⟨q1, q2⟩ := of_decide_eq_true hc
    have hr := yr_bd q1
    have hyr := fun w => Clk.year_any c w h1 h2
    simp only [q1] at hyr
    obtain ⟨f1, f2, f3, f4, f5⟩ := fs_all (c := c) (Y := yrV c) q2 hr.2.1 q1 rfl 0 (by decide) (by decide)
    have e0 : ({ fsS c with u := 0 } : St) = fsS c := rfl
    simp only [e0] at f1 f4 f5
    have hlc := fun w hT => local_st (fsS c) (yrV c) w hT f1
    simp only [f4, f5, Int.add_zero] at hlc
    rcases fy_cases l Y with ⟨e, y, r⟩ | ⟨e, y, r⟩ | ⟨e, y, r, g⟩
    · simp only [y, r] at hfy
      exact holds_y_err A n cp l Y c w hT hs hm hn _ _ _ hr.2.2.1 (by omega) rfl hst hyr hlc _ hfy e rfl
    · simp only [e, r] at hfy
      exact holds_y_why A n cp l Y c w hT hs hm hn _ _ _ hr.2.2.1 (by omega) rfl hst hyr hlc _ hfy y rfl
    · simp only [e, y, r] at hfy
      have ft := g.fit
      exact holds_y_good A n cp l Y c w hT hs hm hn _ _ hr.2.2.1 (by omega) rfl hst hyr hlc _ hfy ft.sp (fun w hT => by have := chk_any _ _ _ _ _ w hT ft.b; unfold rcE at this; rw [if_pos ft.ok] at this; exact this) (fun w hT => spans_yes _ Y w hT ft.b ft.ok g.y1 g.y2)
end Go.Proofs.YtginidedeefcdaaDoor.Ft
