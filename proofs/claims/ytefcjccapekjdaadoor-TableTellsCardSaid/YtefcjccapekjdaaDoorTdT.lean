/-
  TableTells, WALKED.
-/
import Derived.Test.YtefcjccapekjdaaDoorTcV
import Derived.Test.YtefcjccapekjdaaDoorTdM
import Derived.Test.YtefcjccapekjdaaDoorTbE
import Derived.Deep.RegionHeld3
import Derived.Deep.DrawnRows
namespace Go.Proofs.YtefcjccapekjdaaDoor.Tb
open Go.ChangeShapes Go.WideShapes Go.ChangeAt Go.RowKit
open Go.Proofs.YtefcjccapekjdaaDoor
open Go.Proofs.YtefcjccapekjdaaDoor.Wd
open Go.Proofs.YtefcjccapekjdaaDoor.Rec
open Go.Proofs.YtefcjccapekjdaaDoor.Yr
open Go.Proofs.YtefcjccapekjdaaDoor.Clk (yrV yrE)
open Go.Proofs.YtefcjccapekjdaaDoor.Civ (Tab Inv)
set_option linter.unusedVariables false
open Go.Proofs.YtefcjccapekjdaaDoor.Ft (Spans)
open Go.Proofs.YtefcjccapekjdaaDoor.Ld
set_option linter.unusedSimpArgs false
theorem ldTb_sem (v : Value) : Instr.loadAt 40 v = ldSem 40 v := rfl
theorem ldQ_sem (v : Value) : Instr.loadAt 43 v = ldSem 43 v := rfl
attribute [local go_sem ↓] Go.wp_at_zero Go.wp_at_succ
attribute [local go_sem ↓] ldR_sem ldTb_sem ldQ_sem
attribute [local go_sem] ldSem_run
theorem tt_mk {w W : World} {ut uo ug uh ua ub n3 n c n2 c2 : Nat} {F L F2 L2 o1 : Int} {d1 : Bool} {A A2 A3 A4 : Option Addr} {sl : List Sp} {r : Rc} (iv : Inv w W) (s1 : Spans W W.heap.size A3 n3 sl) (s2 : Spans W W.heap.size A4 n3 sl) (ht : Blk W ut 40 (tbA F L A n c)) (ho : Blk W uo 40 (tbA F2 L2 A2 n2 c2)) (hg : Blk W ug 26 r.A) (hh : Blk W uh 26 r.A) (ha : Blk W ua 43 (stA0 o1 d1)) (hb : Blk W ub 43 (stA0 o1 d1)) :
    Inv w W ∧ Spans W W.heap.size A3 n3 sl ∧ Spans W W.heap.size A4 n3 sl ∧ Blk W ut 40 (tbA F L A n c) ∧ Blk W uo 40 (tbA F2 L2 A2 n2 c2) ∧ Blk W ug 26 r.A ∧ Blk W uh 26 r.A ∧ Blk W ua 43 (stA0 o1 d1) ∧ Blk W ub 43 (stA0 o1 d1) ∧ ldT 40 (.pointer (some ⟨ut, 0, none⟩)) W = some (tbA F L A n c) ∧ ldT 40 (.pointer (some ⟨uo, 0, none⟩)) W = some (tbA F2 L2 A2 n2 c2) ∧ ldT 26 (.pointer (some ⟨ug, 0, none⟩)) W = some r.A ∧ ldT 26 (.pointer (some ⟨uh, 0, none⟩)) W = some r.A ∧ ldT 43 (.pointer (some ⟨ua, 0, none⟩)) W = some (stA0 o1 d1) ∧ ldT 43 (.pointer (some ⟨ub, 0, none⟩)) W = some (stA0 o1 d1) :=
  ⟨iv, s1, s2, ht, ho, hg, hh, ha, hb, ldT_of (ld_seg ht Tryd.underlying40 rfl (by kernel_rfl) (by kernel_rfl)), ldT_of (ld_seg ho Tryd.underlying40 rfl (by kernel_rfl) (by kernel_rfl)), ldT_of (ld_seg hg Tryd.underlying26 rfl (by kernel_rfl) (by kernel_rfl)), ldT_of (ld_seg hh Tryd.underlying26 rfl (by kernel_rfl) (by kernel_rfl)), ldT_of (ld_seg ha Tryd.underlying43 rfl (by kernel_rfl) (by kernel_rfl)), ldT_of (ld_seg hb Tryd.underlying43 rfl (by kernel_rfl) (by kernel_rfl))⟩
theorem tt_on {w W W2 : World} {ut uo ug uh ua ub n3 n c n2 c2 : Nat} {F L F2 L2 o1 : Int} {d1 : Bool} {A A2 A3 A4 : Option Addr} {sl : List Sp} {r : Rc} (h : Inv w W ∧ Spans W W.heap.size A3 n3 sl ∧ Spans W W.heap.size A4 n3 sl ∧ Blk W ut 40 (tbA F L A n c) ∧ Blk W uo 40 (tbA F2 L2 A2 n2 c2) ∧ Blk W ug 26 r.A ∧ Blk W uh 26 r.A ∧ Blk W ua 43 (stA0 o1 d1) ∧ Blk W ub 43 (stA0 o1 d1) ∧ ldT 40 (.pointer (some ⟨ut, 0, none⟩)) W = some (tbA F L A n c) ∧ ldT 40 (.pointer (some ⟨uo, 0, none⟩)) W = some (tbA F2 L2 A2 n2 c2) ∧ ldT 26 (.pointer (some ⟨ug, 0, none⟩)) W = some r.A ∧ ldT 26 (.pointer (some ⟨uh, 0, none⟩)) W = some r.A ∧ ldT 43 (.pointer (some ⟨ua, 0, none⟩)) W = some (stA0 o1 d1) ∧ ldT 43 (.pointer (some ⟨ub, 0, none⟩)) W = some (stA0 o1 d1)) (hbx : Below W.heap.size W W2) :
    Inv w W2 ∧ Spans W2 W2.heap.size A3 n3 sl ∧ Spans W2 W2.heap.size A4 n3 sl ∧ Blk W2 ut 40 (tbA F L A n c) ∧ Blk W2 uo 40 (tbA F2 L2 A2 n2 c2) ∧ Blk W2 ug 26 r.A ∧ Blk W2 uh 26 r.A ∧ Blk W2 ua 43 (stA0 o1 d1) ∧ Blk W2 ub 43 (stA0 o1 d1) ∧ ldT 40 (.pointer (some ⟨ut, 0, none⟩)) W2 = some (tbA F L A n c) ∧ ldT 40 (.pointer (some ⟨uo, 0, none⟩)) W2 = some (tbA F2 L2 A2 n2 c2) ∧ ldT 26 (.pointer (some ⟨ug, 0, none⟩)) W2 = some r.A ∧ ldT 26 (.pointer (some ⟨uh, 0, none⟩)) W2 = some r.A ∧ ldT 43 (.pointer (some ⟨ua, 0, none⟩)) W2 = some (stA0 o1 d1) ∧ ldT 43 (.pointer (some ⟨ub, 0, none⟩)) W2 = some (stA0 o1 d1) := by
  obtain ⟨iv, s1, s2, ht, ho, hg, hh, ha, hb, _⟩ := h
  exact tt_mk (iv.call hbx) ((s1.below hbx).more hbx.size) ((s2.below hbx).more hbx.size) (ht.below hbx ht.lt) (ho.below hbx ho.lt) (hg.below hbx hg.lt) (hh.below hbx hh.lt) (ha.below hbx ha.lt) (hb.below hbx hb.lt)
set_option maxRecDepth 100000 in
set_option maxHeartbeats 12800000 in
attribute [-go_sem] run_eql_struct in
theorem tells_main (F L F2 L2 y s E1 E2 E3 o1 : Int) (d1 E4 : Bool) (A A2 : Option Addr) (n c n2 c2 : Nat) (r : Rc) (sl : List Sp) (hsl : sl.length ≤ 3) (w : World) (hT : Tab w)
    (hz1 : ∀ W, Inv w W → Calls Tryd.prog 28 #[tbV F L A n c] W fun e w' => e = .returned (.int .i64 1) ∧ Below W.heap.size W w')
    (hz2 : ∀ W, Inv w W → Calls Tryd.prog 28 #[tbV F2 L2 A2 n2 c2] W fun e w' => e = .returned (.int .i64 1) ∧ Below W.heap.size W w')
    (hp1 : ∀ W, Inv w W → Calls Tryd.prog 37 #[tbV F L A n c, .int .i64 y] W fun e w' => e = .returned (.tuple #[.agg r.A, .int .i64 E1]) ∧ Below W.heap.size W w')
    (hp2 : ∀ W, Inv w W → Calls Tryd.prog 40 #[tbV F L A n c, .int .i64 y] W fun e w' => e = .returned (.tuple #[.agg r.A, .int .i64 E1]) ∧ Below W.heap.size W w')
    (ha1 : ∀ W, Inv w W → Calls Tryd.prog 41 #[tbV F L A n c, .int .i64 s] W fun e w' => e = .returned (.tuple #[.agg (stA0 o1 d1), .int .i64 E2]) ∧ Below W.heap.size W w')
    (ha2 : ∀ W, Inv w W → Calls Tryd.prog 42 #[tbV F L A n c, .int .i64 s] W fun e w' => e = .returned (.tuple #[.agg (stA0 o1 d1), .int .i64 E2]) ∧ Below W.heap.size W w')
    (hs1 : ∀ W, Inv w W → Calls Tryd.prog 43 #[tbV F L A n c, .int .i64 y] W fun e w' => (∃ A' n' c', e = .returned (.tuple #[.slice A' n' c', .int .i64 E1]) ∧ Spans w' w'.heap.size A' n' sl) ∧ Below W.heap.size W w')
    (hs2 : ∀ W, Inv w W → Calls Tryd.prog 44 #[tbV F L A n c, .int .i64 y] W fun e w' => (∃ A' n' c', e = .returned (.tuple #[.slice A' n' c', .int .i64 E1]) ∧ Spans w' w'.heap.size A' n' sl) ∧ Below W.heap.size W w')
    (hc1 : ∀ W, Inv w W → Calls Tryd.prog 45 #[tbV F L A n c] W fun e w' => e = .returned (.int .i64 E3) ∧ Below W.heap.size W w')
    (hc2 : ∀ W, Inv w W → Calls Tryd.prog 46 #[tbV F L A n c] W fun e w' => e = .returned (.int .i64 E3) ∧ Below W.heap.size W w')
    (he1 : ∀ W, Inv w W → Calls Tryd.prog 48 #[tbV F L A n c, tbV F2 L2 A2 n2 c2] W fun e w' => e = .returned (.bool E4) ∧ Below W.heap.size W w')
    (he2 : ∀ W, Inv w W → Calls Tryd.prog 49 #[tbV F L A n c, tbV F2 L2 A2 n2 c2] W fun e w' => e = .returned (.bool E4) ∧ Below W.heap.size W w')
    :
    Calls Tryd.prog 7 #[tbV F L A n c, tbV F2 L2 A2 n2 c2, .int .i64 y, .int .i64 s] w fun e w' => e = .returned (.bool true) ∧ Below w.heap.size w w' := by
  have i0 := Inv.start hT
  have hq1 : ∀ w, (binOp .eql 26 (.agg r.A) (.agg r.A)).run Tryd.prog w = .ok (.bool true) w := fun w => (eq_rc r.b r.c r.d r.b r.c r.d r.p r.q r.p r.q w).trans (by rw [show eqR r.b r.c r.d r.p r.q r.b r.c r.d r.p r.q = true from eqR_iff.2 ⟨rfl, rfl, rfl, rfl, rfl⟩])
  have hq2 : ∀ w, (binOp .eql 43 (.agg (stA0 o1 d1)) (.agg (stA0 o1 d1))).run Tryd.prog w = .ok (.bool true) w := fun w => (eq_sta o1 o1 d1 d1 w).trans (by rw [Ft.eqT_iff.2 ⟨rfl, rfl⟩])
  have eE1 : (E1 == E1) = true := by simp
  have eE2 : (E2 == E2) = true := by simp
  have eE3 : (E3 == E3) = true := by simp
  have eE4 : (E4 == E4) = true := by simp
  go_enter Tryd.func7, Tryd.ntmps7
  go_wp2_with (first | refine wpList_row_g rfl 40 _ rfl _ rfl _ _ _ _ ((Wd.Blk.new w 40 (tbA F L A n c)).alloc (.cells (tbA F2 L2 A2 n2 c2) 40)) Tryd.underlying40 rfl (by kernel_rfl) ?_)
  have t_1 := ((Wd.Blk.new w 40 (tbA F L A n c)).alloc (.cells (tbA F2 L2 A2 n2 c2) 40))
  have o_1 := (blk_at (w.alloc (.cells (tbA F L A n c) 40)) 40 (tbA F2 L2 A2 n2 c2) (sz1 _ _ rfl))
  have inv_1 := ((i0.alloc (.cells (tbA F L A n c) 40)).alloc (.cells (tbA F2 L2 A2 n2 c2) 40))
  refine (hz1 _ inv_1).mono ?_; rintro e w_1 ⟨rfl, hb_1⟩
  have tc_1 := t_1.below hb_1 t_1.lt
  have oc_1 := o_1.below hb_1 o_1.lt
  have invc_1 := inv_1.call hb_1
  clear t_1 o_1 inv_1 hb_1
  go_wp2_with (first | refine wpList_row_g rfl 40 _ rfl _ rfl _ _ _ _ oc_1 Tryd.underlying40 rfl (by kernel_rfl) ?_)
  have t_2 := tc_1
  have o_2 := oc_1
  have inv_2 := invc_1
  refine (hz2 _ inv_2).mono ?_; rintro e w_2 ⟨rfl, hb_2⟩
  have tc_2 := t_2.below hb_2 t_2.lt
  have oc_2 := o_2.below hb_2 o_2.lt
  have invc_2 := inv_2.call hb_2
  clear t_2 o_2 inv_2 hb_2
  go_wp2_with (first | refine wpList_row_g rfl 40 _ rfl _ rfl _ _ _ _ tc_2 Tryd.underlying40 rfl (by kernel_rfl) ?_)
  have t_3 := tc_2
  have o_3 := oc_2
  have inv_3 := invc_2
  refine (hp1 _ inv_3).mono ?_; rintro e w_3 ⟨rfl, hb_3⟩
  have tc_3 := t_3.below hb_3 t_3.lt
  have oc_3 := o_3.below hb_3 o_3.lt
  have invc_3 := inv_3.call hb_3
  clear t_3 o_3 inv_3 hb_3
  have t_4 := (tc_3.alloc (.cells r.A 26))
  have o_4 := (oc_3.alloc (.cells r.A 26))
  have g_4 := (Wd.Blk.new w_3 26 r.A)
  have inv_4 := (invc_3.alloc (.cells r.A 26))
  go_wp2_with (first | refine wpList_store_new rfl 26 _ _ rfl rfl w_3.heap.size r.A rfl rfl _ #[.int .i32 0, .int .i32 0, .int .i32 0, .int .u16 0, .int .u16 0, .int .u16 0, .int .u16 0, .int .u16 0, .int .u16 0, .int .u16 0, .int .u16 0, .int .u16 0, .int .u16 0, .int .u16 0, .int .u16 0, .int .u16 0, .int .u16 0, .int .u16 0, .int .u16 0] w_3 rfl rfl rfl (by kernel_rfl) (by kernel_rfl) ?_ | refine wpList_row_g rfl 40 _ rfl _ rfl _ _ _ _ t_4 Tryd.underlying40 rfl (by kernel_rfl) ?_)
  have t_5 := t_4
  have o_5 := o_4
  have g_5 := g_4
  have inv_5 := inv_4
  refine (hp2 _ inv_5).mono ?_; rintro e w_5 ⟨rfl, hb_5⟩
  have tc_5 := t_5.below hb_5 t_5.lt
  have oc_5 := o_5.below hb_5 o_5.lt
  have gc_5 := g_5.below hb_5 g_5.lt
  have invc_5 := inv_5.call hb_5
  clear t_5 o_5 g_5 inv_5 hb_5
  have t_6 := (tc_5.alloc (.cells r.A 26))
  have o_6 := (oc_5.alloc (.cells r.A 26))
  have g_6 := (gc_5.alloc (.cells r.A 26))
  have h_6 := (Wd.Blk.new w_5 26 r.A)
  have inv_6 := (invc_5.alloc (.cells r.A 26))
  go_wp2_with (first | refine wpList_store_new rfl 26 _ _ rfl rfl w_5.heap.size r.A rfl rfl _ #[.int .i32 0, .int .i32 0, .int .i32 0, .int .u16 0, .int .u16 0, .int .u16 0, .int .u16 0, .int .u16 0, .int .u16 0, .int .u16 0, .int .u16 0, .int .u16 0, .int .u16 0, .int .u16 0, .int .u16 0, .int .u16 0, .int .u16 0, .int .u16 0, .int .u16 0] w_5 rfl rfl rfl (by kernel_rfl) (by kernel_rfl) ?_ | refine wpList_row_g rfl 40 _ rfl _ rfl _ _ _ _ t_6 Tryd.underlying40 rfl (by kernel_rfl) ?_)
  have t_7 := t_6
  have o_7 := o_6
  have g_7 := g_6
  have h_7 := h_6
  have inv_7 := inv_6
  refine (ha1 _ inv_7).mono ?_; rintro e w_7 ⟨rfl, hb_7⟩
  have tc_7 := t_7.below hb_7 t_7.lt
  have oc_7 := o_7.below hb_7 o_7.lt
  have gc_7 := g_7.below hb_7 g_7.lt
  have hc_7 := h_7.below hb_7 h_7.lt
  have invc_7 := inv_7.call hb_7
  clear t_7 o_7 g_7 h_7 inv_7 hb_7
  have t_8 := (tc_7.alloc (.cells (stA0 o1 d1) 43))
  have o_8 := (oc_7.alloc (.cells (stA0 o1 d1) 43))
  have g_8 := (gc_7.alloc (.cells (stA0 o1 d1) 43))
  have h_8 := (hc_7.alloc (.cells (stA0 o1 d1) 43))
  have a_8 := (Wd.Blk.new w_7 43 (stA0 o1 d1))
  have inv_8 := (invc_7.alloc (.cells (stA0 o1 d1) 43))
  go_wp2_with (first | refine wpList_store_new rfl 43 _ _ rfl rfl w_7.heap.size (stA0 o1 d1) rfl rfl _ (stA0 0 false) w_7 rfl rfl rfl (by kernel_rfl) (by kernel_rfl) ?_ | refine wpList_row_g rfl 40 _ rfl _ rfl _ _ _ _ t_8 Tryd.underlying40 rfl (by kernel_rfl) ?_)
  have t_9 := t_8
  have o_9 := o_8
  have g_9 := g_8
  have h_9 := h_8
  have a_9 := a_8
  have inv_9 := inv_8
  refine (ha2 _ inv_9).mono ?_; rintro e w_9 ⟨rfl, hb_9⟩
  have tc_9 := t_9.below hb_9 t_9.lt
  have oc_9 := o_9.below hb_9 o_9.lt
  have gc_9 := g_9.below hb_9 g_9.lt
  have hc_9 := h_9.below hb_9 h_9.lt
  have ac_9 := a_9.below hb_9 a_9.lt
  have invc_9 := inv_9.call hb_9
  clear t_9 o_9 g_9 h_9 a_9 inv_9 hb_9
  have t_10 := (tc_9.alloc (.cells (stA0 o1 d1) 43))
  have o_10 := (oc_9.alloc (.cells (stA0 o1 d1) 43))
  have g_10 := (gc_9.alloc (.cells (stA0 o1 d1) 43))
  have h_10 := (hc_9.alloc (.cells (stA0 o1 d1) 43))
  have a_10 := (ac_9.alloc (.cells (stA0 o1 d1) 43))
  have b_10 := (Wd.Blk.new w_9 43 (stA0 o1 d1))
  have inv_10 := (invc_9.alloc (.cells (stA0 o1 d1) 43))
  go_wp2_with (first | refine wpList_store_new rfl 43 _ _ rfl rfl w_9.heap.size (stA0 o1 d1) rfl rfl _ (stA0 0 false) w_9 rfl rfl rfl (by kernel_rfl) (by kernel_rfl) ?_ | refine wpList_row_g rfl 40 _ rfl _ rfl _ _ _ _ t_10 Tryd.underlying40 rfl (by kernel_rfl) ?_)
  have t_11 := t_10
  have o_11 := o_10
  have g_11 := g_10
  have h_11 := h_10
  have a_11 := a_10
  have b_11 := b_10
  have inv_11 := inv_10
  refine (hs1 _ inv_11).mono ?_; rintro e w_11 ⟨⟨A3, n3, c3, rfl, hS3⟩, hb_11⟩
  have tc_11 := t_11.below hb_11 t_11.lt; clear t_11
  have oc_11 := o_11.below hb_11 o_11.lt; clear o_11
  have gc_11 := g_11.below hb_11 g_11.lt; clear g_11
  have hc_11 := h_11.below hb_11 h_11.lt; clear h_11
  have ac_11 := a_11.below hb_11 a_11.lt; clear a_11
  have bc_11 := b_11.below hb_11 b_11.lt; clear b_11
  have invc_11 := inv_11.call hb_11; clear inv_11
  clear hb_11
  go_wp2_with (first | refine wpList_row_g rfl 40 _ rfl _ rfl _ _ _ _ tc_11 Tryd.underlying40 rfl (by kernel_rfl) ?_)
  have t_12 := tc_11
  have o_12 := oc_11
  have g_12 := gc_11
  have h_12 := hc_11
  have a_12 := ac_11
  have b_12 := bc_11
  have inv_12 := invc_11
  refine (hs2 _ inv_12).mono ?_; rintro e w_12 ⟨⟨A4, n4, c4, rfl, hS4⟩, hb_12⟩
  have tc_12 := t_12.below hb_12 t_12.lt; clear t_12
  have oc_12 := o_12.below hb_12 o_12.lt; clear o_12
  have gc_12 := g_12.below hb_12 g_12.lt; clear g_12
  have hc_12 := h_12.below hb_12 h_12.lt; clear h_12
  have ac_12 := a_12.below hb_12 a_12.lt; clear a_12
  have bc_12 := b_12.below hb_12 b_12.lt; clear b_12
  have invc_12 := inv_12.call hb_12; clear inv_12
  have hS5 := (hS3.below hb_12).more hb_12.size; clear hS3 hb_12
  have en : n4 = n3 := by rw [← hS4.1, ← hS5.1]
  subst en
  have hn3 : n4 ≤ 3 := by rw [← hS4.1]; exact hsl
  go_upto_region 9 with fail
  have ZZ := Lib.hid (tt_mk invc_12.drew (show Spans w_12.drew _ _ _ _ from hS5) (show Spans w_12.drew _ _ _ _ from hS4) tc_12 oc_12 gc_12 hc_12 ac_12 bc_12)
  clear invc_12 hS4 hS5 tc_12 oc_12 gc_12 hc_12 ac_12 bc_12 hz1 hz2 hp1 hp2 ha1 ha2 hs1 hs2 i0
  generalize w_12 = W at *
  generalize hgub : w_9.heap.size = ub at *
  generalize hgua : w_7.heap.size = ua at *
  generalize hguh : w_5.heap.size = uh at *
  generalize hgug : w_3.heap.size = ug at *
  generalize hguo : w.heap.size + 1 = uo at *
  generalize hgut : w.heap.size = ut at *
  clear hgub hgua hguh hgug hguo hgut
  refine wp_region_held_drew (S := fun w' => Inv w w' ∧ Spans w' w'.heap.size A3 n4 sl ∧ Spans w' w'.heap.size A4 n4 sl ∧ Blk w' ut 40 (tbA F L A n c) ∧ Blk w' uo 40 (tbA F2 L2 A2 n2 c2) ∧ Blk w' ug 26 r.A ∧ Blk w' uh 26 r.A ∧ Blk w' ua 43 (stA0 o1 d1) ∧ Blk w' ub 43 (stA0 o1 d1) ∧ ldT 40 (.pointer (some ⟨ut, 0, none⟩)) w' = some (tbA F L A n c) ∧ ldT 40 (.pointer (some ⟨uo, 0, none⟩)) w' = some (tbA F2 L2 A2 n2 c2) ∧ ldT 26 (.pointer (some ⟨ug, 0, none⟩)) w' = some r.A ∧ ldT 26 (.pointer (some ⟨uh, 0, none⟩)) w' = some r.A ∧ ldT 43 (.pointer (some ⟨ua, 0, none⟩)) w' = some (stA0 o1 d1) ∧ ldT 43 (.pointer (some ⟨ub, 0, none⟩)) w' = some (stA0 o1 d1)) (by kernel_rfl) (ZZ.out) (fun hHeld => ?_)
  refine wpAnyH_ready (rs := [0]) (by kernel_rfl) (by simp) ?_
  refine AllReadyH.cons (o := { dst := some 66, op := Op.call { callee := Callee.value (Operand.func 39), args := #[], argTypes := #[] }, type := 4, pos := "law.go:46", after := #[], guard := none }) rfl (fun K hK => ?_) (AllReadyH.nil)
  go_simp
  refine (lives23_any _ hHeld.1.1).mono ?_; rintro e w_51 ⟨rfl, hb_51⟩
  try go_wp2_with fail
  refine hK.out _ _ (tt_on hHeld hb_51) (fun hHeld2 => ?_)
  clear hK K hHeld; have hHeld := hHeld2; clear hHeld2
  try simp only [Act.put, List.setIfInBounds_toArray, List.set_cons_zero, List.set_cons_succ]
  refine wpAnyH_take (i := 1) (oi := { dst := some 67, op := Op.move (Operand.tmp 66), type := 4, pos := "law.go:46", after := #[{ on := 0, ground := Ground.data }, { on := 0, ground := Ground.chain }], guard := none }) (v := ?_) rfl (by kernel_rfl) (by kernel_rfl) (by kernel_rfl) (fun _ _ _ h => h) (Or.inl ⟨by rfl, ?_⟩) hHeld ?_
  rotate_left
  · intro w hSw
    try dsimp only at hSw
    go_simp
    try with_reducible rfl
  try simp only [Act.put, List.setIfInBounds_toArray, List.set_cons_zero, List.set_cons_succ]
  refine wpAnyH_take (i := 2) (oi := { dst := some 68, op := Op.load 40 (Operand.tmp 4), type := 40, pos := "law.go:46", after := #[{ on := 1, ground := Ground.guard }], guard := some (1, true) }) (v := ?_) rfl (by kernel_rfl) (by kernel_rfl) (by kernel_rfl) (fun _ _ _ h => h) (Or.inl ⟨by rfl, ?_⟩) hHeld ?_
  rotate_left
  · intro w hSw
    try dsimp only at hSw
    go_simp
    try with_reducible rfl
  try simp only [Act.put, List.setIfInBounds_toArray, List.set_cons_zero, List.set_cons_succ]
  refine wpAnyH_take (i := 4) (oi := { dst := some 70, op := Op.load 40 (Operand.tmp 4), type := 40, pos := "law.go:46", after := #[{ on := 1, ground := Ground.guard }], guard := some (1, true) }) (v := ?_) rfl (by kernel_rfl) (by kernel_rfl) (by kernel_rfl) (fun _ _ _ h => h) (Or.inl ⟨by rfl, ?_⟩) hHeld ?_
  rotate_left
  · intro w hSw
    try dsimp only at hSw
    go_simp
    try with_reducible rfl
  try simp only [Act.put, List.setIfInBounds_toArray, List.set_cons_zero, List.set_cons_succ]
  refine wpAnyH_ready (rs := [3]) (by kernel_rfl) (by simp) ?_
  refine AllReadyH.cons (o := { dst := some 69, op := Op.call { callee := Callee.value (Operand.func 45), args := #[Operand.tmp 68], argTypes := #[40] }, type := 30, pos := "law.go:46", after := #[{ on := 2, ground := Ground.data }, { on := 1, ground := Ground.chain }, { on := 1, ground := Ground.guard }], guard := some (1, true) }) rfl (fun K hK => ?_) (AllReadyH.nil)
  go_simp
  refine (hc1 _ hHeld.1).mono ?_; rintro e w_52 ⟨rfl, hb_52⟩
  try go_wp2_with fail
  refine hK.out _ _ (tt_on hHeld hb_52) (fun hHeld2 => ?_)
  clear hK K hHeld; have hHeld := hHeld2; clear hHeld2
  try simp only [Act.put, List.setIfInBounds_toArray, List.set_cons_zero, List.set_cons_succ]
  refine wpAnyH_ready (rs := [5]) (by kernel_rfl) (by simp) ?_
  refine AllReadyH.cons (o := { dst := some 71, op := Op.call { callee := Callee.value (Operand.func 46), args := #[Operand.tmp 70], argTypes := #[40] }, type := 30, pos := "law.go:46", after := #[{ on := 4, ground := Ground.data }, { on := 3, ground := Ground.chain }, { on := 1, ground := Ground.guard }], guard := some (1, true) }) rfl (fun K hK => ?_) (AllReadyH.nil)
  go_simp
  refine (hc2 _ hHeld.1).mono ?_; rintro e w_53 ⟨rfl, hb_53⟩
  try go_wp2_with fail
  refine hK.out _ _ (tt_on hHeld hb_53) (fun hHeld2 => ?_)
  clear hK K hHeld; have hHeld := hHeld2; clear hHeld2
  try simp only [Act.put, List.setIfInBounds_toArray, List.set_cons_zero, List.set_cons_succ]
  refine wpAnyH_take (i := 6) (oi := { dst := some 72, op := Op.binOp BinOp.eql 30 (Operand.tmp 69) (Operand.tmp 71) 30, type := 4, pos := "law.go:46", after := #[{ on := 3, ground := Ground.data }, { on := 5, ground := Ground.data }, { on := 1, ground := Ground.guard }], guard := some (1, true) }) (v := ?_) rfl (by kernel_rfl) (by kernel_rfl) (by kernel_rfl) (fun _ _ _ h => h) (Or.inl ⟨by rfl, ?_⟩) hHeld ?_
  rotate_left
  · intro w hSw
    try dsimp only at hSw
    go_simp
    try with_reducible rfl
  try simp only [Act.put, List.setIfInBounds_toArray, List.set_cons_zero, List.set_cons_succ]
  refine wpAnyH_take (i := 7) (oi := { dst := some 73, op := Op.pick (Operand.tmp 67) (Operand.tmp 72) (Operand.const (Value.bool false)), type := 4, pos := "law.go:46", after := #[{ on := 1, ground := Ground.data }, { on := 6, ground := Ground.data }], guard := none }) (v := ?_) rfl (by kernel_rfl) (by kernel_rfl) (by kernel_rfl) (fun _ _ _ h => h) (Or.inl ⟨by rfl, ?_⟩) hHeld ?_
  rotate_left
  · intro w hSw
    try dsimp only at hSw
    go_simp
    try with_reducible rfl
  try simp only [Act.put, List.setIfInBounds_toArray, List.set_cons_zero, List.set_cons_succ]
  refine wpAnyH_take (i := 8) (oi := { dst := some 74, op := Op.move (Operand.tmp 73), type := 4, pos := "law.go:46", after := #[{ on := 7, ground := Ground.data }, { on := 5, ground := Ground.chain }], guard := none }) (v := ?_) rfl (by kernel_rfl) (by kernel_rfl) (by kernel_rfl) (fun _ _ _ h => h) (Or.inl ⟨by rfl, ?_⟩) hHeld ?_
  rotate_left
  · intro w hSw
    try dsimp only at hSw
    go_simp
    try with_reducible rfl
  try simp only [Act.put, List.setIfInBounds_toArray, List.set_cons_zero, List.set_cons_succ]
  refine wpAnyH_take (i := 9) (oi := { dst := some 75, op := Op.load 26 (Operand.tmp 9), type := 26, pos := "law.go:46", after := #[{ on := 8, ground := Ground.guard }], guard := some (8, true) }) (v := ?_) rfl (by kernel_rfl) (by kernel_rfl) (by kernel_rfl) (fun _ _ _ h => h) (Or.inl ⟨by rfl, ?_⟩) hHeld ?_
  rotate_left
  · intro w hSw
    try dsimp only at hSw
    go_simp
    try with_reducible rfl
  try simp only [Act.put, List.setIfInBounds_toArray, List.set_cons_zero, List.set_cons_succ]
  refine wpAnyH_take (i := 10) (oi := { dst := some 76, op := Op.load 26 (Operand.tmp 11), type := 26, pos := "law.go:46", after := #[{ on := 8, ground := Ground.guard }], guard := some (8, true) }) (v := ?_) rfl (by kernel_rfl) (by kernel_rfl) (by kernel_rfl) (fun _ _ _ h => h) (Or.inl ⟨by rfl, ?_⟩) hHeld ?_
  rotate_left
  · intro w hSw
    try dsimp only at hSw
    go_simp
    try with_reducible rfl
  try simp only [Act.put, List.setIfInBounds_toArray, List.set_cons_zero, List.set_cons_succ]
  refine wpAnyH_take (i := 11) (oi := { dst := some 77, op := Op.binOp BinOp.eql 26 (Operand.tmp 75) (Operand.tmp 76) 26, type := 4, pos := "law.go:46", after := #[{ on := 9, ground := Ground.data }, { on := 10, ground := Ground.data }, { on := 8, ground := Ground.guard }], guard := some (8, true) }) (v := ?_) rfl (by kernel_rfl) (by kernel_rfl) (by kernel_rfl) (fun _ _ _ h => h) (Or.inl ⟨by rfl, ?_⟩) hHeld ?_
  rotate_left
  · intro w hSw
    try dsimp only at hSw
    go_simp
    try with_reducible rfl
  try simp only [Act.put, List.setIfInBounds_toArray, List.set_cons_zero, List.set_cons_succ]
  refine wpAnyH_take (i := 12) (oi := { dst := some 78, op := Op.pick (Operand.tmp 74) (Operand.tmp 77) (Operand.const (Value.bool false)), type := 4, pos := "law.go:46", after := #[{ on := 8, ground := Ground.data }, { on := 11, ground := Ground.data }], guard := none }) (v := ?_) rfl (by kernel_rfl) (by kernel_rfl) (by kernel_rfl) (fun _ _ _ h => h) (Or.inl ⟨by rfl, ?_⟩) hHeld ?_
  rotate_left
  · intro w hSw
    try dsimp only at hSw
    go_simp
    try with_reducible rfl
  try simp only [Act.put, List.setIfInBounds_toArray, List.set_cons_zero, List.set_cons_succ]
  refine wpAnyH_take (i := 13) (oi := { dst := some 79, op := Op.move (Operand.tmp 78), type := 4, pos := "law.go:46", after := #[{ on := 12, ground := Ground.data }, { on := 8, ground := Ground.chain }], guard := none }) (v := ?_) rfl (by kernel_rfl) (by kernel_rfl) (by kernel_rfl) (fun _ _ _ h => h) (Or.inl ⟨by rfl, ?_⟩) hHeld ?_
  rotate_left
  · intro w hSw
    try dsimp only at hSw
    go_simp
    try with_reducible rfl
  try simp only [Act.put, List.setIfInBounds_toArray, List.set_cons_zero, List.set_cons_succ]
  refine wpAnyH_take (i := 14) (oi := { dst := some 80, op := Op.move (Operand.tmp 10), type := 30, pos := "law.go:46", after := #[{ on := 13, ground := Ground.guard }], guard := some (13, true) }) (v := ?_) rfl (by kernel_rfl) (by kernel_rfl) (by kernel_rfl) (fun _ _ _ h => h) (Or.inl ⟨by rfl, ?_⟩) hHeld ?_
  rotate_left
  · intro w hSw
    try dsimp only at hSw
    go_simp
    try with_reducible rfl
  try simp only [Act.put, List.setIfInBounds_toArray, List.set_cons_zero, List.set_cons_succ]
  refine wpAnyH_take (i := 15) (oi := { dst := some 81, op := Op.move (Operand.tmp 12), type := 30, pos := "law.go:46", after := #[{ on := 13, ground := Ground.guard }], guard := some (13, true) }) (v := ?_) rfl (by kernel_rfl) (by kernel_rfl) (by kernel_rfl) (fun _ _ _ h => h) (Or.inl ⟨by rfl, ?_⟩) hHeld ?_
  rotate_left
  · intro w hSw
    try dsimp only at hSw
    go_simp
    try with_reducible rfl
  try simp only [Act.put, List.setIfInBounds_toArray, List.set_cons_zero, List.set_cons_succ]
  refine wpAnyH_take (i := 16) (oi := { dst := some 82, op := Op.binOp BinOp.eql 30 (Operand.tmp 80) (Operand.tmp 81) 30, type := 4, pos := "law.go:46", after := #[{ on := 14, ground := Ground.data }, { on := 15, ground := Ground.data }, { on := 13, ground := Ground.guard }], guard := some (13, true) }) (v := ?_) rfl (by kernel_rfl) (by kernel_rfl) (by kernel_rfl) (fun _ _ _ h => h) (Or.inl ⟨by rfl, ?_⟩) hHeld ?_
  rotate_left
  · intro w hSw
    try dsimp only at hSw
    go_simp
    try with_reducible rfl
  try simp only [Act.put, List.setIfInBounds_toArray, List.set_cons_zero, List.set_cons_succ]
  refine wpAnyH_take (i := 17) (oi := { dst := some 83, op := Op.pick (Operand.tmp 79) (Operand.tmp 82) (Operand.const (Value.bool false)), type := 4, pos := "law.go:46", after := #[{ on := 13, ground := Ground.data }, { on := 16, ground := Ground.data }], guard := none }) (v := ?_) rfl (by kernel_rfl) (by kernel_rfl) (by kernel_rfl) (fun _ _ _ h => h) (Or.inl ⟨by rfl, ?_⟩) hHeld ?_
  rotate_left
  · intro w hSw
    try dsimp only at hSw
    go_simp
    try with_reducible rfl
  try simp only [Act.put, List.setIfInBounds_toArray, List.set_cons_zero, List.set_cons_succ]
  refine wpAnyH_take (i := 18) (oi := { dst := some 84, op := Op.move (Operand.tmp 83), type := 4, pos := "law.go:46", after := #[{ on := 17, ground := Ground.data }, { on := 13, ground := Ground.chain }], guard := none }) (v := ?_) rfl (by kernel_rfl) (by kernel_rfl) (by kernel_rfl) (fun _ _ _ h => h) (Or.inl ⟨by rfl, ?_⟩) hHeld ?_
  rotate_left
  · intro w hSw
    try dsimp only at hSw
    go_simp
    try with_reducible rfl
  try simp only [Act.put, List.setIfInBounds_toArray, List.set_cons_zero, List.set_cons_succ]
  refine wpAnyH_take (i := 19) (oi := { dst := some 85, op := Op.load 43 (Operand.tmp 13), type := 43, pos := "law.go:46", after := #[{ on := 18, ground := Ground.guard }], guard := some (18, true) }) (v := ?_) rfl (by kernel_rfl) (by kernel_rfl) (by kernel_rfl) (fun _ _ _ h => h) (Or.inl ⟨by rfl, ?_⟩) hHeld ?_
  rotate_left
  · intro w hSw
    try dsimp only at hSw
    go_simp
    try with_reducible rfl
  try simp only [Act.put, List.setIfInBounds_toArray, List.set_cons_zero, List.set_cons_succ]
  refine wpAnyH_take (i := 20) (oi := { dst := some 86, op := Op.load 43 (Operand.tmp 15), type := 43, pos := "law.go:46", after := #[{ on := 18, ground := Ground.guard }], guard := some (18, true) }) (v := ?_) rfl (by kernel_rfl) (by kernel_rfl) (by kernel_rfl) (fun _ _ _ h => h) (Or.inl ⟨by rfl, ?_⟩) hHeld ?_
  rotate_left
  · intro w hSw
    try dsimp only at hSw
    go_simp
    try with_reducible rfl
  try simp only [Act.put, List.setIfInBounds_toArray, List.set_cons_zero, List.set_cons_succ]
  refine wpAnyH_take (i := 21) (oi := { dst := some 87, op := Op.binOp BinOp.eql 43 (Operand.tmp 85) (Operand.tmp 86) 43, type := 4, pos := "law.go:46", after := #[{ on := 19, ground := Ground.data }, { on := 20, ground := Ground.data }, { on := 18, ground := Ground.guard }], guard := some (18, true) }) (v := ?_) rfl (by kernel_rfl) (by kernel_rfl) (by kernel_rfl) (fun _ _ _ h => h) (Or.inl ⟨by rfl, ?_⟩) hHeld ?_
  rotate_left
  · intro w hSw
    try dsimp only at hSw
    go_simp
    try with_reducible rfl
  try simp only [Act.put, List.setIfInBounds_toArray, List.set_cons_zero, List.set_cons_succ]
  refine wpAnyH_take (i := 22) (oi := { dst := some 88, op := Op.pick (Operand.tmp 84) (Operand.tmp 87) (Operand.const (Value.bool false)), type := 4, pos := "law.go:46", after := #[{ on := 18, ground := Ground.data }, { on := 21, ground := Ground.data }], guard := none }) (v := ?_) rfl (by kernel_rfl) (by kernel_rfl) (by kernel_rfl) (fun _ _ _ h => h) (Or.inl ⟨by rfl, ?_⟩) hHeld ?_
  rotate_left
  · intro w hSw
    try dsimp only at hSw
    go_simp
    try with_reducible rfl
  try simp only [Act.put, List.setIfInBounds_toArray, List.set_cons_zero, List.set_cons_succ]
  refine wpAnyH_take (i := 23) (oi := { dst := some 89, op := Op.move (Operand.tmp 88), type := 4, pos := "law.go:46", after := #[{ on := 22, ground := Ground.data }, { on := 18, ground := Ground.chain }], guard := none }) (v := ?_) rfl (by kernel_rfl) (by kernel_rfl) (by kernel_rfl) (fun _ _ _ h => h) (Or.inl ⟨by rfl, ?_⟩) hHeld ?_
  rotate_left
  · intro w hSw
    try dsimp only at hSw
    go_simp
    try with_reducible rfl
  try simp only [Act.put, List.setIfInBounds_toArray, List.set_cons_zero, List.set_cons_succ]
  refine wpAnyH_take (i := 24) (oi := { dst := some 90, op := Op.move (Operand.tmp 14), type := 30, pos := "law.go:46", after := #[{ on := 23, ground := Ground.guard }], guard := some (23, true) }) (v := ?_) rfl (by kernel_rfl) (by kernel_rfl) (by kernel_rfl) (fun _ _ _ h => h) (Or.inl ⟨by rfl, ?_⟩) hHeld ?_
  rotate_left
  · intro w hSw
    try dsimp only at hSw
    go_simp
    try with_reducible rfl
  try simp only [Act.put, List.setIfInBounds_toArray, List.set_cons_zero, List.set_cons_succ]
  refine wpAnyH_take (i := 25) (oi := { dst := some 91, op := Op.move (Operand.tmp 16), type := 30, pos := "law.go:46", after := #[{ on := 23, ground := Ground.guard }], guard := some (23, true) }) (v := ?_) rfl (by kernel_rfl) (by kernel_rfl) (by kernel_rfl) (fun _ _ _ h => h) (Or.inl ⟨by rfl, ?_⟩) hHeld ?_
  rotate_left
  · intro w hSw
    try dsimp only at hSw
    go_simp
    try with_reducible rfl
  try simp only [Act.put, List.setIfInBounds_toArray, List.set_cons_zero, List.set_cons_succ]
  refine wpAnyH_take (i := 26) (oi := { dst := some 92, op := Op.binOp BinOp.eql 30 (Operand.tmp 90) (Operand.tmp 91) 30, type := 4, pos := "law.go:46", after := #[{ on := 24, ground := Ground.data }, { on := 25, ground := Ground.data }, { on := 23, ground := Ground.guard }], guard := some (23, true) }) (v := ?_) rfl (by kernel_rfl) (by kernel_rfl) (by kernel_rfl) (fun _ _ _ h => h) (Or.inl ⟨by rfl, ?_⟩) hHeld ?_
  rotate_left
  · intro w hSw
    try dsimp only at hSw
    go_simp
    try with_reducible rfl
  try simp only [Act.put, List.setIfInBounds_toArray, List.set_cons_zero, List.set_cons_succ]
  refine wpAnyH_take (i := 27) (oi := { dst := some 93, op := Op.pick (Operand.tmp 89) (Operand.tmp 92) (Operand.const (Value.bool false)), type := 4, pos := "law.go:46", after := #[{ on := 23, ground := Ground.data }, { on := 26, ground := Ground.data }], guard := none }) (v := ?_) rfl (by kernel_rfl) (by kernel_rfl) (by kernel_rfl) (fun _ _ _ h => h) (Or.inl ⟨by rfl, ?_⟩) hHeld ?_
  rotate_left
  · intro w hSw
    try dsimp only at hSw
    go_simp
    try with_reducible rfl
  try simp only [Act.put, List.setIfInBounds_toArray, List.set_cons_zero, List.set_cons_succ]
  refine wpAnyH_take (i := 28) (oi := { dst := some 94, op := Op.move (Operand.tmp 93), type := 4, pos := "law.go:46", after := #[{ on := 27, ground := Ground.data }, { on := 23, ground := Ground.chain }], guard := none }) (v := ?_) rfl (by kernel_rfl) (by kernel_rfl) (by kernel_rfl) (fun _ _ _ h => h) (Or.inl ⟨by rfl, ?_⟩) hHeld ?_
  rotate_left
  · intro w hSw
    try dsimp only at hSw
    go_simp
    try with_reducible rfl
  try simp only [Act.put, List.setIfInBounds_toArray, List.set_cons_zero, List.set_cons_succ]
  refine wpAnyH_take (i := 29) (oi := { dst := some 95, op := Op.move (Operand.tmp 17), type := 59, pos := "law.go:46", after := #[{ on := 28, ground := Ground.guard }], guard := some (28, true) }) (v := ?_) rfl (by kernel_rfl) (by kernel_rfl) (by kernel_rfl) (fun _ _ _ h => h) (Or.inl ⟨by rfl, ?_⟩) hHeld ?_
  rotate_left
  · intro w hSw
    try dsimp only at hSw
    go_simp
    try with_reducible rfl
  try simp only [Act.put, List.setIfInBounds_toArray, List.set_cons_zero, List.set_cons_succ]
  refine wpAnyH_take (i := 30) (oi := { dst := some 96, op := Op.move (Operand.tmp 19), type := 59, pos := "law.go:46", after := #[{ on := 28, ground := Ground.guard }], guard := some (28, true) }) (v := ?_) rfl (by kernel_rfl) (by kernel_rfl) (by kernel_rfl) (fun _ _ _ h => h) (Or.inl ⟨by rfl, ?_⟩) hHeld ?_
  rotate_left
  · intro w hSw
    try dsimp only at hSw
    go_simp
    try with_reducible rfl
  try simp only [Act.put, List.setIfInBounds_toArray, List.set_cons_zero, List.set_cons_succ]
  refine wpAnyH_ready (rs := [31]) (by kernel_rfl) (by simp) ?_
  refine AllReadyH.cons (o := { dst := some 97, op := Op.call { callee := Callee.value (Operand.func 47), args := #[Operand.tmp 95, Operand.tmp 96], argTypes := #[59, 59] }, type := 4, pos := "law.go:46", after := #[{ on := 29, ground := Ground.data }, { on := 30, ground := Ground.data }, { on := 28, ground := Ground.chain }, { on := 28, ground := Ground.guard }], guard := some (28, true) }) rfl (fun K hK => ?_) (AllReadyH.nil)
  go_simp
  refine (Ft.same_eq _ _ n4 _ _ sl _ hHeld.2.1 hHeld.2.2.1 (by unfold maxLen; omega)).mono ?_; rintro e w_54 ⟨rfl, hb_54⟩
  try go_wp2_with fail
  refine hK.out _ _ (tt_on hHeld hb_54) (fun hHeld2 => ?_)
  clear hK K hHeld; have hHeld := hHeld2; clear hHeld2
  try simp only [Act.put, List.setIfInBounds_toArray, List.set_cons_zero, List.set_cons_succ]
  refine wpAnyH_take (i := 32) (oi := { dst := some 98, op := Op.pick (Operand.tmp 94) (Operand.tmp 97) (Operand.const (Value.bool false)), type := 4, pos := "law.go:46", after := #[{ on := 28, ground := Ground.data }, { on := 31, ground := Ground.data }], guard := none }) (v := ?_) rfl (by kernel_rfl) (by kernel_rfl) (by kernel_rfl) (fun _ _ _ h => h) (Or.inl ⟨by rfl, ?_⟩) hHeld ?_
  rotate_left
  · intro w hSw
    try dsimp only at hSw
    go_simp
    try with_reducible rfl
  try simp only [Act.put, List.setIfInBounds_toArray, List.set_cons_zero, List.set_cons_succ]
  refine wpAnyH_take (i := 33) (oi := { dst := some 99, op := Op.move (Operand.tmp 98), type := 4, pos := "law.go:46", after := #[{ on := 32, ground := Ground.data }, { on := 31, ground := Ground.chain }], guard := none }) (v := ?_) rfl (by kernel_rfl) (by kernel_rfl) (by kernel_rfl) (fun _ _ _ h => h) (Or.inl ⟨by rfl, ?_⟩) hHeld ?_
  rotate_left
  · intro w hSw
    try dsimp only at hSw
    go_simp
    try with_reducible rfl
  try simp only [Act.put, List.setIfInBounds_toArray, List.set_cons_zero, List.set_cons_succ]
  refine wpAnyH_take (i := 34) (oi := { dst := some 100, op := Op.move (Operand.tmp 18), type := 30, pos := "law.go:46", after := #[{ on := 33, ground := Ground.guard }], guard := some (33, true) }) (v := ?_) rfl (by kernel_rfl) (by kernel_rfl) (by kernel_rfl) (fun _ _ _ h => h) (Or.inl ⟨by rfl, ?_⟩) hHeld ?_
  rotate_left
  · intro w hSw
    try dsimp only at hSw
    go_simp
    try with_reducible rfl
  try simp only [Act.put, List.setIfInBounds_toArray, List.set_cons_zero, List.set_cons_succ]
  refine wpAnyH_take (i := 35) (oi := { dst := some 101, op := Op.move (Operand.tmp 20), type := 30, pos := "law.go:46", after := #[{ on := 33, ground := Ground.guard }], guard := some (33, true) }) (v := ?_) rfl (by kernel_rfl) (by kernel_rfl) (by kernel_rfl) (fun _ _ _ h => h) (Or.inl ⟨by rfl, ?_⟩) hHeld ?_
  rotate_left
  · intro w hSw
    try dsimp only at hSw
    go_simp
    try with_reducible rfl
  try simp only [Act.put, List.setIfInBounds_toArray, List.set_cons_zero, List.set_cons_succ]
  refine wpAnyH_take (i := 36) (oi := { dst := some 102, op := Op.binOp BinOp.eql 30 (Operand.tmp 100) (Operand.tmp 101) 30, type := 4, pos := "law.go:46", after := #[{ on := 34, ground := Ground.data }, { on := 35, ground := Ground.data }, { on := 33, ground := Ground.guard }], guard := some (33, true) }) (v := ?_) rfl (by kernel_rfl) (by kernel_rfl) (by kernel_rfl) (fun _ _ _ h => h) (Or.inl ⟨by rfl, ?_⟩) hHeld ?_
  rotate_left
  · intro w hSw
    try dsimp only at hSw
    go_simp
    try with_reducible rfl
  try simp only [Act.put, List.setIfInBounds_toArray, List.set_cons_zero, List.set_cons_succ]
  refine wpAnyH_take (i := 37) (oi := { dst := some 103, op := Op.pick (Operand.tmp 99) (Operand.tmp 102) (Operand.const (Value.bool false)), type := 4, pos := "law.go:46", after := #[{ on := 33, ground := Ground.data }, { on := 36, ground := Ground.data }], guard := none }) (v := ?_) rfl (by kernel_rfl) (by kernel_rfl) (by kernel_rfl) (fun _ _ _ h => h) (Or.inl ⟨by rfl, ?_⟩) hHeld ?_
  rotate_left
  · intro w hSw
    try dsimp only at hSw
    go_simp
    try with_reducible rfl
  try simp only [Act.put, List.setIfInBounds_toArray, List.set_cons_zero, List.set_cons_succ]
  refine wpAnyH_take (i := 38) (oi := { dst := some 104, op := Op.move (Operand.tmp 103), type := 4, pos := "law.go:46", after := #[{ on := 37, ground := Ground.data }, { on := 33, ground := Ground.chain }], guard := none }) (v := ?_) rfl (by kernel_rfl) (by kernel_rfl) (by kernel_rfl) (fun _ _ _ h => h) (Or.inl ⟨by rfl, ?_⟩) hHeld ?_
  rotate_left
  · intro w hSw
    try dsimp only at hSw
    go_simp
    try with_reducible rfl
  try simp only [Act.put, List.setIfInBounds_toArray, List.set_cons_zero, List.set_cons_succ]
  refine wpAnyH_take (i := 39) (oi := { dst := some 105, op := Op.load 40 (Operand.tmp 4), type := 40, pos := "law.go:46", after := #[{ on := 38, ground := Ground.guard }], guard := some (38, true) }) (v := ?_) rfl (by kernel_rfl) (by kernel_rfl) (by kernel_rfl) (fun _ _ _ h => h) (Or.inl ⟨by rfl, ?_⟩) hHeld ?_
  rotate_left
  · intro w hSw
    try dsimp only at hSw
    go_simp
    try with_reducible rfl
  try simp only [Act.put, List.setIfInBounds_toArray, List.set_cons_zero, List.set_cons_succ]
  refine wpAnyH_take (i := 40) (oi := { dst := some 106, op := Op.load 40 (Operand.tmp 5), type := 40, pos := "law.go:46", after := #[{ on := 38, ground := Ground.guard }], guard := some (38, true) }) (v := ?_) rfl (by kernel_rfl) (by kernel_rfl) (by kernel_rfl) (fun _ _ _ h => h) (Or.inl ⟨by rfl, ?_⟩) hHeld ?_
  rotate_left
  · intro w hSw
    try dsimp only at hSw
    go_simp
    try with_reducible rfl
  try simp only [Act.put, List.setIfInBounds_toArray, List.set_cons_zero, List.set_cons_succ]
  refine wpAnyH_take (i := 42) (oi := { dst := some 108, op := Op.load 40 (Operand.tmp 4), type := 40, pos := "law.go:46", after := #[{ on := 38, ground := Ground.guard }], guard := some (38, true) }) (v := ?_) rfl (by kernel_rfl) (by kernel_rfl) (by kernel_rfl) (fun _ _ _ h => h) (Or.inl ⟨by rfl, ?_⟩) hHeld ?_
  rotate_left
  · intro w hSw
    try dsimp only at hSw
    go_simp
    try with_reducible rfl
  try simp only [Act.put, List.setIfInBounds_toArray, List.set_cons_zero, List.set_cons_succ]
  refine wpAnyH_take (i := 43) (oi := { dst := some 109, op := Op.load 40 (Operand.tmp 5), type := 40, pos := "law.go:46", after := #[{ on := 38, ground := Ground.guard }], guard := some (38, true) }) (v := ?_) rfl (by kernel_rfl) (by kernel_rfl) (by kernel_rfl) (fun _ _ _ h => h) (Or.inl ⟨by rfl, ?_⟩) hHeld ?_
  rotate_left
  · intro w hSw
    try dsimp only at hSw
    go_simp
    try with_reducible rfl
  try simp only [Act.put, List.setIfInBounds_toArray, List.set_cons_zero, List.set_cons_succ]
  refine wpAnyH_ready (rs := [41]) (by kernel_rfl) (by simp) ?_
  refine AllReadyH.cons (o := { dst := some 107, op := Op.call { callee := Callee.value (Operand.func 48), args := #[Operand.tmp 105, Operand.tmp 106], argTypes := #[40, 40] }, type := 4, pos := "law.go:46", after := #[{ on := 39, ground := Ground.data }, { on := 40, ground := Ground.data }, { on := 38, ground := Ground.chain }, { on := 38, ground := Ground.guard }], guard := some (38, true) }) rfl (fun K hK => ?_) (AllReadyH.nil)
  go_simp
  refine (he1 _ hHeld.1).mono ?_; rintro e w_55 ⟨rfl, hb_55⟩
  try go_wp2_with fail
  refine hK.out _ _ (tt_on hHeld hb_55) (fun hHeld2 => ?_)
  clear hK K hHeld; have hHeld := hHeld2; clear hHeld2
  try simp only [Act.put, List.setIfInBounds_toArray, List.set_cons_zero, List.set_cons_succ]
  refine wpAnyH_ready (rs := [44]) (by kernel_rfl) (by simp) ?_
  refine AllReadyH.cons (o := { dst := some 110, op := Op.call { callee := Callee.value (Operand.func 49), args := #[Operand.tmp 108, Operand.tmp 109], argTypes := #[40, 40] }, type := 4, pos := "law.go:46", after := #[{ on := 42, ground := Ground.data }, { on := 43, ground := Ground.data }, { on := 41, ground := Ground.chain }, { on := 38, ground := Ground.guard }], guard := some (38, true) }) rfl (fun K hK => ?_) (AllReadyH.nil)
  go_simp
  refine (he2 _ hHeld.1).mono ?_; rintro e w_56 ⟨rfl, hb_56⟩
  try go_wp2_with fail
  refine hK.out _ _ (tt_on hHeld hb_56) (fun hHeld2 => ?_)
  clear hK K hHeld; have hHeld := hHeld2; clear hHeld2
  try simp only [Act.put, List.setIfInBounds_toArray, List.set_cons_zero, List.set_cons_succ]
  refine wpAnyH_take (i := 45) (oi := { dst := some 111, op := Op.binOp BinOp.eql 4 (Operand.tmp 107) (Operand.tmp 110) 4, type := 4, pos := "law.go:46", after := #[{ on := 41, ground := Ground.data }, { on := 44, ground := Ground.data }, { on := 38, ground := Ground.guard }], guard := some (38, true) }) (v := ?_) rfl (by kernel_rfl) (by kernel_rfl) (by kernel_rfl) (fun _ _ _ h => h) (Or.inl ⟨by rfl, ?_⟩) hHeld ?_
  rotate_left
  · intro w hSw
    try dsimp only at hSw
    go_simp
    try with_reducible rfl
  try simp only [Act.put, List.setIfInBounds_toArray, List.set_cons_zero, List.set_cons_succ]
  refine wpAnyH_take (i := 46) (oi := { dst := some 112, op := Op.pick (Operand.tmp 104) (Operand.tmp 111) (Operand.const (Value.bool false)), type := 4, pos := "law.go:46", after := #[{ on := 38, ground := Ground.data }, { on := 45, ground := Ground.data }], guard := none }) (v := ?_) rfl (by kernel_rfl) (by kernel_rfl) (by kernel_rfl) (fun _ _ _ h => h) (Or.inl ⟨by rfl, ?_⟩) hHeld ?_
  rotate_left
  · intro w hSw
    try dsimp only at hSw
    go_simp
    try with_reducible rfl
  try simp only [Act.put, List.setIfInBounds_toArray, List.set_cons_zero, List.set_cons_succ]
  refine wpAnyH_take (i := 47) (oi := { dst := some 8, op := Op.assign (Operand.tmp 112), type := 4, pos := "law.go:46", after := #[{ on := 46, ground := Ground.data }, { on := 44, ground := Ground.chain }, { on := 0, ground := Ground.phase }, { on := 1, ground := Ground.phase }, { on := 2, ground := Ground.phase }, { on := 3, ground := Ground.phase }, { on := 4, ground := Ground.phase }, { on := 5, ground := Ground.phase }, { on := 6, ground := Ground.phase }, { on := 7, ground := Ground.phase }, { on := 8, ground := Ground.phase }, { on := 9, ground := Ground.phase }, { on := 10, ground := Ground.phase }, { on := 11, ground := Ground.phase }, { on := 12, ground := Ground.phase }, { on := 13, ground := Ground.phase }, { on := 14, ground := Ground.phase }, { on := 15, ground := Ground.phase }, { on := 16, ground := Ground.phase }, { on := 17, ground := Ground.phase }, { on := 18, ground := Ground.phase }, { on := 19, ground := Ground.phase }, { on := 20, ground := Ground.phase }, { on := 21, ground := Ground.phase }, { on := 22, ground := Ground.phase }, { on := 23, ground := Ground.phase }, { on := 24, ground := Ground.phase }, { on := 25, ground := Ground.phase }, { on := 26, ground := Ground.phase }, { on := 27, ground := Ground.phase }, { on := 28, ground := Ground.phase }, { on := 29, ground := Ground.phase }, { on := 30, ground := Ground.phase }, { on := 31, ground := Ground.phase }, { on := 32, ground := Ground.phase }, { on := 33, ground := Ground.phase }, { on := 34, ground := Ground.phase }, { on := 35, ground := Ground.phase }, { on := 36, ground := Ground.phase }, { on := 37, ground := Ground.phase }, { on := 38, ground := Ground.phase }, { on := 39, ground := Ground.phase }, { on := 40, ground := Ground.phase }, { on := 41, ground := Ground.phase }, { on := 42, ground := Ground.phase }, { on := 43, ground := Ground.phase }, { on := 44, ground := Ground.phase }, { on := 45, ground := Ground.phase }, { on := 46, ground := Ground.phase }], guard := none }) (v := ?_) rfl (by kernel_rfl) (by kernel_rfl) (by kernel_rfl) (fun _ _ _ h => h) (Or.inl ⟨by rfl, ?_⟩) hHeld ?_
  rotate_left
  · intro w hSw
    try dsimp only at hSw
    go_simp
    try with_reducible rfl
  try simp only [Act.put, List.setIfInBounds_toArray, List.set_cons_zero, List.set_cons_succ]
  refine wpAnyH_done (by kernel_rfl) ?_ _
  have hbel := hHeld.1.2; clear hHeld ZZ
  go_wp2_with fail
  go_ret
  exact ⟨rfl, hbel⟩
set_option maxRecDepth 100000 in
theorem tells_long (F L F2 L2 y s : Int) (A A2 : Option Addr) (n c n2 c2 : Nat) (l m : List Rc) (w : World) (hT : Tab w) (hR : Recs w w.heap.size A n l) (hR2 : Recs w w.heap.size A2 n2 m) (hm : n ≤ maxLen) (hm2 : n2 ≤ maxLen) (hn : ¬ (n ≤ 60 ∧ n2 ≤ 60)) :
    Calls Tryd.prog 7 #[tbV F L A n c, tbV F2 L2 A2 n2 c2, .int .i64 y, .int .i64 s] w fun e w' => e = .returned (.bool true) ∧ Below w.heap.size w w' := by
  have i0 := Inv.start hT
  have hz1 := fun w => small_any F L A n c w hm
  have hz2 := fun w => small_any F2 L2 A2 n2 c2 w hm2
  have i2 := (i0.alloc (.cells (tbA F L A n c) 40)).alloc (.cells (tbA F2 L2 A2 n2 c2) 40)
  have x2 := (Blk.new w 40 (tbA F L A n c)).alloc (.cells (tbA F2 L2 A2 n2 c2) 40)
  have y2 := blk_at (w.alloc (.cells (tbA F L A n c) 40)) 40 (tbA F2 L2 A2 n2 c2) (sz1 w _ rfl)
  by_cases h1 : n ≤ 60
  · have h2 : ¬ n2 ≤ 60 := fun h => hn ⟨h1, h⟩
    simp only [if_pos h1] at hz1
    simp only [if_neg h2] at hz2
    clear h1 h2 hn
    go_enter Tryd.func7, Tryd.ntmps7
    go_wp2_with (first | refine wpList_row_g rfl 40 _ rfl _ rfl _ _ _ _ x2 Tryd.underlying40 rfl (by kernel_rfl) ?_)
    refine (hz1 _).mono ?_; rintro e w3 ⟨rfl, hb3⟩
    have y3 := y2.below hb3 y2.lt
    have i3 := i2.call hb3
    go_wp2_with (first | refine wpList_row_g rfl 40 _ rfl _ rfl _ _ _ _ y3 Tryd.underlying40 rfl (by kernel_rfl) ?_)
    refine (hz2 _).mono ?_; rintro e w4 ⟨rfl, hb4⟩
    have i4 := i3.call hb4
    go_wp2_with fail
    refine (lives23_any _ i4.1).mono ?_; rintro e w5 ⟨rfl, hb5⟩
    have i5 := i4.call hb5
    go_wp2_with fail
    go_ret
    exact ⟨rfl, i5.2⟩
  · simp only [if_neg h1] at hz1
    clear h1 hn
    go_enter Tryd.func7, Tryd.ntmps7
    go_wp2_with (first | refine wpList_row_g rfl 40 _ rfl _ rfl _ _ _ _ x2 Tryd.underlying40 rfl (by kernel_rfl) ?_)
    refine (hz1 _).mono ?_; rintro e w3 ⟨rfl, hb3⟩
    have i3 := i2.call hb3
    go_wp2_with fail
    refine (lives23_any _ i3.1).mono ?_; rintro e w5 ⟨rfl, hb5⟩
    have i5 := i3.call hb5
    go_wp2_with fail
    go_ret
    exact ⟨rfl, i5.2⟩
theorem tells_any (F L F2 L2 y s : Int) (A A2 : Option Addr) (n c n2 c2 : Nat) (l m : List Rc) (w : World) (hT : Tab w) (hR : Recs w w.heap.size A n l) (hR2 : Recs w w.heap.size A2 n2 m) (hm : n ≤ maxLen) (hm2 : n2 ≤ maxLen) (hs : -9223372036854775808 ≤ s ∧ s ≤ 9223372036854775807) :
    Calls Tryd.prog 7 #[tbV F L A n c, tbV F2 L2 A2 n2 c2, .int .i64 y, .int .i64 s] w fun e w' => e = .returned (.bool true) ∧ Below w.heap.size w w' := by
  by_cases hn : n ≤ 60 ∧ n2 ≤ 60
  · have hB := Nat.le_refl w.heap.size
    have hl3 : (tsL F L l y).length ≤ 3 := by
      unfold tsL; split
      · exact (spL_len _ _).2
      · simp
    exact tells_main F L F2 L2 y s (pkE F L l y) (atE F L l s) (tbE F L l) (tOff F L l s) (tSum F L l s) (sameB F L l F2 L2 m) A A2 n c n2 c2 (pkR F L l y) (tsL F L l y) hl3 w hT
      (fun W i => by have := small_any F L A n c W hm; rwa [if_pos hn.1] at this) (fun W i => by have := small_any F2 L2 A2 n2 c2 W hm2; rwa [if_pos hn.2] at this)
      (fun W i => pick_any F L A n c w.heap.size l y W i.1 (hR.below i.2) i.2.size hm) (fun W i => Rf.rpick_any F L A n c w.heap.size l y W i.1 (hR.below i.2) i.2.size hm)
      (fun W i => tat_any F L A n c w.heap.size l s W i.1 (hR.below i.2) i.2.size hm hs) (fun W i => Rf.rtat_any F L A n c w.heap.size l s W i.1 (hR.below i.2) i.2.size hm hs)
      (fun W i => (tspans_any F L A n c w.heap.size l y W i.1 (hR.below i.2) i.2.size hm).mono fun _ _ ⟨a, b, c, h1, h2, _, _, _, h5⟩ => ⟨⟨a, b, c, h1, h2⟩, h5⟩)
      (fun W i => (rtspans_any F L A n c w.heap.size l y W i.1 (hR.below i.2) i.2.size hm).mono fun _ _ ⟨a, b, c, h1, h2, _, _, h5⟩ => ⟨⟨a, b, c, h1, h2⟩, h5⟩)
      (fun W i => check_any F L A n c w.heap.size l W i.1 (hR.below i.2) i.2.size hm) (fun W i => Rf.rtcheck_any F L A n c w.heap.size l W i.1 (hR.below i.2) i.2.size hm)
      (fun W i => tsame_any F L F2 L2 A A2 n n2 c c2 l m W ((hR.below i.2).more i.2.size) ((hR2.below i.2).more i.2.size) hm hm2) (fun W i => rtsame_any F L F2 L2 A A2 n n2 c c2 l m W ((hR.below i.2).more i.2.size) ((hR2.below i.2).more i.2.size) hm hm2)
  · exact tells_long F L F2 L2 y s A A2 n c n2 c2 l m w hT hR hR2 hm hm2 hn
end Go.Proofs.YtefcjccapekjdaaDoor.Tb
