/-
  FitTells, WALKED.
-/
import Derived.Test.YtginidedeefcdaaDoorFtV
import Derived.Test.YtginidedeefcdaaDoorRfG
namespace Go.Proofs.YtginidedeefcdaaDoor.Ft
open Go.ChangeShapes Go.WideShapes Go.ChangeAt Go.RowKit
open Go.Proofs.YtginidedeefcdaaDoor
open Go.Proofs.YtginidedeefcdaaDoor.Wd
open Go.Proofs.YtginidedeefcdaaDoor.Rec
open Go.Proofs.YtginidedeefcdaaDoor.Yr
open Go.Proofs.YtginidedeefcdaaDoor.Tb
open Go.Proofs.YtginidedeefcdaaDoor.Clk (yrV yrE)
open Go.Proofs.YtginidedeefcdaaDoor.Civ (Tab Inv)
set_option linter.unusedVariables false
set_option linter.unusedSimpArgs false
set_option maxRecDepth 100000 in
set_option maxHeartbeats 12800000 in
theorem tells_main (A : Option Addr) (n cp : Nat) (l : List Sp) (Y c E1 E2 E3 E4 : Int) (r : Rc) (s p q : St) (w : World) (hT : Tab w) (hs : Spans w w.heap.size A n l) (hm : n ≤ maxLen) (hn : ¬ (100 : Int) < (n : Int))
    (hy1 : ∀ w, Tab w → Spans w w.heap.size A n l → Calls Tryd.prog 13 #[.slice A n cp, .int .i64 Y] w fun e w' => e = .returned (.tuple #[.agg (rcA r.b r.c r.d r.p r.q), .int .u8 E1, .int .i64 E2]) ∧ Below w.heap.size w w')
    (hy2 : ∀ w, Tab w → Spans w w.heap.size A n l → Calls Tryd.prog 14 #[.slice A n cp, .int .i64 Y] w fun e w' => e = .returned (.tuple #[.agg (rcA r.b r.c r.d r.p r.q), .int .u8 E1, .int .i64 E2]) ∧ Below w.heap.size w w')
    (hs1 : ∀ w, Tab w → Calls Tryd.prog 15 #[.int .i64 c] w fun e w' => e = .returned (.tuple #[.agg (sA s), .int .i64 E3]) ∧ Below w.heap.size w w')
    (hs2 : ∀ w, Tab w → Calls Tryd.prog 16 #[.int .i64 c] w fun e w' => e = .returned (.tuple #[.agg (sA s), .int .i64 E3]) ∧ Below w.heap.size w w')
    (he1 : ∀ w, Tab w → Calls Tryd.prog 17 #[.int .i64 Y] w fun e w' => e = .returned (.tuple #[.agg (sA p), .agg (sA q), .int .i64 E4]) ∧ Below w.heap.size w w')
    (he2 : ∀ w, Tab w → Calls Tryd.prog 18 #[.int .i64 Y] w fun e w' => e = .returned (.tuple #[.agg (sA p), .agg (sA q), .int .i64 E4]) ∧ Below w.heap.size w w')
    :
    Calls Tryd.prog 3 #[.slice A n cp, .int .i64 Y, .int .i64 c] w fun e w' => e = .returned (.bool true) ∧ Below w.heap.size w w' := by
  have i0 := Inv.start hT
  unfold maxLen at hm
  have hsA := Lib.hid (fun (W : World) (h : Inv w W) => (hs.below h.2).more h.2.size)
  have hs0 := hs
  clear hs
  have hq0 : ∀ w, (binOp .eql 28 (.agg (rcA r.b r.c r.d r.p r.q)) (.agg (rcA r.b r.c r.d r.p r.q))).run Tryd.prog w = .ok (.bool true) w := fun w => (eq_rc r.b r.c r.d r.b r.c r.d r.p r.q r.p r.q w).trans (by rw [show eqR r.b r.c r.d r.p r.q r.b r.c r.d r.p r.q = true from eqR_iff.2 ⟨rfl, rfl, rfl, rfl, rfl⟩])
  have hq1 : ∀ w, (binOp .eql 26 (.agg (sA s)) (.agg (sA s))).run Tryd.prog w = .ok (.bool true) w := fun w => (eq_stt s s w).trans (by rw [show eqS s s = true from eqS_iff.2 rfl])
  have hq2 : ∀ w, (binOp .eql 26 (.agg (sA p)) (.agg (sA p))).run Tryd.prog w = .ok (.bool true) w := fun w => (eq_stt p p w).trans (by rw [show eqS p p = true from eqS_iff.2 rfl])
  have hq3 : ∀ w, (binOp .eql 26 (.agg (sA q)) (.agg (sA q))).run Tryd.prog w = .ok (.bool true) w := fun w => (eq_stt q q w).trans (by rw [show eqS q q = true from eqS_iff.2 rfl])
  have eE1 : (E1 == E1) = true := by simp
  have eE2 : (E2 == E2) = true := by simp
  have eE3 : (E3 == E3) = true := by simp
  have eE4 : (E4 == E4) = true := by simp
  go_enter Tryd.func3, Tryd.ntmps3
  go_wp2_with fail
  refine (hy1 _ i0.1 (hsA.out _ i0)).mono ?_; rintro e w_0 ⟨rfl, hb_0⟩
  have inv_0 := i0.call hb_0; clear hb_0
  have g_1 := (Wd.Blk.new w_0 28 (rcA r.b r.c r.d r.p r.q))
  have inv_1 := (inv_0.alloc (.cells (rcA r.b r.c r.d r.p r.q) 28))
  go_wp2_with (first | refine wpList_store_new rfl 28 _ _ rfl rfl w_0.heap.size (rcA r.b r.c r.d r.p r.q) rfl rfl _ z19 w_0 rfl rfl rfl (by kernel_rfl) (by kernel_rfl) ?_)
  have g_2 := g_1
  have inv_2 := inv_1
  refine (hy2 _ inv_2.1 (hsA.out _ inv_2)).mono ?_; rintro e w_2 ⟨rfl, hb_2⟩
  have gc_2 := g_2.below hb_2 g_2.lt
  have invc_2 := inv_2.call hb_2
  clear g_2 inv_2 hb_2
  have g_3 := (gc_2.alloc (.cells (rcA r.b r.c r.d r.p r.q) 28))
  have h_3 := (Wd.Blk.new w_2 28 (rcA r.b r.c r.d r.p r.q))
  have inv_3 := (invc_2.alloc (.cells (rcA r.b r.c r.d r.p r.q) 28))
  go_wp2_with (first | refine wpList_store_new rfl 28 _ _ rfl rfl w_2.heap.size (rcA r.b r.c r.d r.p r.q) rfl rfl _ z19 w_2 rfl rfl rfl (by kernel_rfl) (by kernel_rfl) ?_)
  have g_4 := g_3
  have h_4 := h_3
  have inv_4 := inv_3
  refine (hs1 _ inv_4.1).mono ?_; rintro e w_4 ⟨rfl, hb_4⟩
  have gc_4 := g_4.below hb_4 g_4.lt
  have hc_4 := h_4.below hb_4 h_4.lt
  have invc_4 := inv_4.call hb_4
  clear g_4 h_4 inv_4 hb_4
  have g_5 := (gc_4.alloc (.cells (sA s) 26))
  have h_5 := (hc_4.alloc (.cells (sA s) 26))
  have a_5 := (Wd.Blk.new w_4 26 (sA s))
  have inv_5 := (invc_4.alloc (.cells (sA s) 26))
  go_wp2_with (first | refine wpList_store_new rfl 26 _ _ rfl rfl w_4.heap.size (sA s) rfl rfl _ #[.int .u16 0, .int .u16 0, .int .u16 0, .int .u16 0, .int .u16 0, .int .u16 0, .int .u16 0, .int .u16 0] w_4 rfl rfl rfl (by kernel_rfl) (by kernel_rfl) ?_)
  have g_6 := g_5
  have h_6 := h_5
  have a_6 := a_5
  have inv_6 := inv_5
  refine (hs2 _ inv_6.1).mono ?_; rintro e w_6 ⟨rfl, hb_6⟩
  have gc_6 := g_6.below hb_6 g_6.lt
  have hc_6 := h_6.below hb_6 h_6.lt
  have ac_6 := a_6.below hb_6 a_6.lt
  have invc_6 := inv_6.call hb_6
  clear g_6 h_6 a_6 inv_6 hb_6
  have g_7 := (gc_6.alloc (.cells (sA s) 26))
  have h_7 := (hc_6.alloc (.cells (sA s) 26))
  have a_7 := (ac_6.alloc (.cells (sA s) 26))
  have b_7 := (Wd.Blk.new w_6 26 (sA s))
  have inv_7 := (invc_6.alloc (.cells (sA s) 26))
  go_wp2_with (first | refine wpList_store_new rfl 26 _ _ rfl rfl w_6.heap.size (sA s) rfl rfl _ #[.int .u16 0, .int .u16 0, .int .u16 0, .int .u16 0, .int .u16 0, .int .u16 0, .int .u16 0, .int .u16 0] w_6 rfl rfl rfl (by kernel_rfl) (by kernel_rfl) ?_)
  have g_8 := g_7
  have h_8 := h_7
  have a_8 := a_7
  have b_8 := b_7
  have inv_8 := inv_7
  refine (he1 _ inv_8.1).mono ?_; rintro e w_8 ⟨rfl, hb_8⟩
  have gc_8 := g_8.below hb_8 g_8.lt
  have hc_8 := h_8.below hb_8 h_8.lt
  have ac_8 := a_8.below hb_8 a_8.lt
  have bc_8 := b_8.below hb_8 b_8.lt
  have invc_8 := inv_8.call hb_8
  clear g_8 h_8 a_8 b_8 inv_8 hb_8
  have xz_w_8 := (Blk.new w_8 26 #[.int .u16 0, .int .u16 0, .int .u16 0, .int .u16 0, .int .u16 0, .int .u16 0, .int .u16 0, .int .u16 0]).alloc (.cells #[.int .u16 0, .int .u16 0, .int .u16 0, .int .u16 0, .int .u16 0, .int .u16 0, .int .u16 0, .int .u16 0] 26)
  have yz_w_8 := Blk.rowFar (blk_at (w_8.alloc (.cells #[.int .u16 0, .int .u16 0, .int .u16 0, .int .u16 0, .int .u16 0, .int .u16 0, .int .u16 0, .int .u16 0] 26)) 26 #[.int .u16 0, .int .u16 0, .int .u16 0, .int .u16 0, .int .u16 0, .int .u16 0, .int .u16 0, .int .u16 0] (sz1 w_8 _ rfl)) (show w_8.heap.size + 1 ≠ w_8.heap.size by omega) (sA p)
  have g_9 := ((gc_8.alloc (.cells (sA p) 26)).alloc (.cells (sA q) 26))
  have h_9 := ((hc_8.alloc (.cells (sA p) 26)).alloc (.cells (sA q) 26))
  have a_9 := ((ac_8.alloc (.cells (sA p) 26)).alloc (.cells (sA q) 26))
  have b_9 := ((bc_8.alloc (.cells (sA p) 26)).alloc (.cells (sA q) 26))
  have i_9 := ((Wd.Blk.new w_8 26 (sA p)).alloc (.cells (sA q) 26))
  have j_9 := (blk_at (w_8.alloc (.cells (sA p) 26)) 26 (sA q) (sz1 _ _ rfl))
  have inv_9 := ((invc_8.alloc (.cells (sA p) 26)).alloc (.cells (sA q) 26))
  have tr_w_8 := two_rows w_8 26 (sA p) (sA q) #[.int .u16 0, .int .u16 0, .int .u16 0, .int .u16 0, .int .u16 0, .int .u16 0, .int .u16 0, .int .u16 0] rfl rfl
  go_upto_region 8 with (first | (refine wpList_store_g rfl 26 _ _ rfl rfl _ 0 (sA p) (sA p) rfl rfl _ _ xz_w_8 (by show 0 + 8 ≤ 8; decide) (by kernel_rfl) (by kernel_rfl) (by kernel_rfl) ?_) | (refine wpList_store_g rfl 26 _ _ rfl rfl _ 0 (sA q) (sA q) rfl rfl _ _ yz_w_8 (by show 0 + 8 ≤ 8; decide) (by kernel_rfl) (by kernel_rfl) (by kernel_rfl) ?_; rw [tr_w_8]))
  clear xz_w_8 yz_w_8 tr_w_8
  go_wp2_with fail
  have g_10 := g_9
  have h_10 := h_9
  have a_10 := a_9
  have b_10 := b_9
  have i_10 := i_9
  have j_10 := j_9
  have inv_10 := inv_9
  refine (he2 _ inv_10.1).mono ?_; rintro e w_10 ⟨rfl, hb_10⟩
  have gc_10 := g_10.below hb_10 g_10.lt
  have hc_10 := h_10.below hb_10 h_10.lt
  have ac_10 := a_10.below hb_10 a_10.lt
  have bc_10 := b_10.below hb_10 b_10.lt
  have ic_10 := i_10.below hb_10 i_10.lt
  have jc_10 := j_10.below hb_10 j_10.lt
  have invc_10 := inv_10.call hb_10
  clear g_10 h_10 a_10 b_10 i_10 j_10 inv_10 hb_10
  have xz_w_10 := (Blk.new w_10 26 #[.int .u16 0, .int .u16 0, .int .u16 0, .int .u16 0, .int .u16 0, .int .u16 0, .int .u16 0, .int .u16 0]).alloc (.cells #[.int .u16 0, .int .u16 0, .int .u16 0, .int .u16 0, .int .u16 0, .int .u16 0, .int .u16 0, .int .u16 0] 26)
  have yz_w_10 := Blk.rowFar (blk_at (w_10.alloc (.cells #[.int .u16 0, .int .u16 0, .int .u16 0, .int .u16 0, .int .u16 0, .int .u16 0, .int .u16 0, .int .u16 0] 26)) 26 #[.int .u16 0, .int .u16 0, .int .u16 0, .int .u16 0, .int .u16 0, .int .u16 0, .int .u16 0, .int .u16 0] (sz1 w_10 _ rfl)) (show w_10.heap.size + 1 ≠ w_10.heap.size by omega) (sA p)
  have g_11 := ((gc_10.alloc (.cells (sA p) 26)).alloc (.cells (sA q) 26))
  have h_11 := ((hc_10.alloc (.cells (sA p) 26)).alloc (.cells (sA q) 26))
  have a_11 := ((ac_10.alloc (.cells (sA p) 26)).alloc (.cells (sA q) 26))
  have b_11 := ((bc_10.alloc (.cells (sA p) 26)).alloc (.cells (sA q) 26))
  have i_11 := ((ic_10.alloc (.cells (sA p) 26)).alloc (.cells (sA q) 26))
  have j_11 := ((jc_10.alloc (.cells (sA p) 26)).alloc (.cells (sA q) 26))
  have k_11 := ((Wd.Blk.new w_10 26 (sA p)).alloc (.cells (sA q) 26))
  have m_11 := (blk_at (w_10.alloc (.cells (sA p) 26)) 26 (sA q) (sz1 _ _ rfl))
  have inv_11 := ((invc_10.alloc (.cells (sA p) 26)).alloc (.cells (sA q) 26))
  have tr_w_10 := two_rows w_10 26 (sA p) (sA q) #[.int .u16 0, .int .u16 0, .int .u16 0, .int .u16 0, .int .u16 0, .int .u16 0, .int .u16 0, .int .u16 0] rfl rfl
  go_upto_region 9 with (first | (refine wpList_store_g rfl 26 _ _ rfl rfl _ 0 (sA p) (sA p) rfl rfl _ _ xz_w_10 (by show 0 + 8 ≤ 8; decide) (by kernel_rfl) (by kernel_rfl) (by kernel_rfl) ?_) | (refine wpList_store_g rfl 26 _ _ rfl rfl _ 0 (sA q) (sA q) rfl rfl _ _ yz_w_10 (by show 0 + 8 ≤ 8; decide) (by kernel_rfl) (by kernel_rfl) (by kernel_rfl) ?_; rw [tr_w_10]))
  clear xz_w_10 yz_w_10 tr_w_10
  go_wp2_with fail
  have g_12 := g_11
  have h_12 := h_11
  have a_12 := a_11
  have b_12 := b_11
  have i_12 := i_11
  have j_12 := j_11
  have k_12 := k_11
  have m_12 := m_11
  have inv_12 := inv_11
  refine (lives_any _ inv_12.1).mono ?_; rintro e w_12 ⟨rfl, hb_12⟩
  have gc_12 := g_12.below hb_12 g_12.lt
  have hc_12 := h_12.below hb_12 h_12.lt
  have ac_12 := a_12.below hb_12 a_12.lt
  have bc_12 := b_12.below hb_12 b_12.lt
  have ic_12 := i_12.below hb_12 i_12.lt
  have jc_12 := j_12.below hb_12 j_12.lt
  have kc_12 := k_12.below hb_12 k_12.lt
  have mc_12 := m_12.below hb_12 m_12.lt
  have invc_12 := inv_12.call hb_12
  clear g_12 h_12 a_12 b_12 i_12 j_12 k_12 m_12 inv_12 hb_12
  go_wp2_with (first | refine wpList_row_g rfl 28 _ rfl _ rfl _ _ _ _ gc_12 Tryd.underlying28 rfl (by kernel_rfl) ?_ | refine wpList_row_g rfl 28 _ rfl _ rfl _ _ _ _ hc_12 Tryd.underlying28 rfl (by kernel_rfl) ?_ | refine wpList_row_g rfl 26 _ rfl _ rfl _ _ _ _ ac_12 Tryd.underlying26 rfl (by kernel_rfl) ?_ | refine wpList_row_g rfl 26 _ rfl _ rfl _ _ _ _ bc_12 Tryd.underlying26 rfl (by kernel_rfl) ?_ | refine wpList_row_g rfl 26 _ rfl _ rfl _ _ _ _ ic_12 Tryd.underlying26 rfl (by kernel_rfl) ?_ | refine wpList_row_g rfl 26 _ rfl _ rfl _ _ _ _ jc_12 Tryd.underlying26 rfl (by kernel_rfl) ?_ | refine wpList_row_g rfl 26 _ rfl _ rfl _ _ _ _ kc_12 Tryd.underlying26 rfl (by kernel_rfl) ?_ | refine wpList_row_g rfl 26 _ rfl _ rfl _ _ _ _ mc_12 Tryd.underlying26 rfl (by kernel_rfl) ?_)
  go_ret
  exact ⟨rfl, invc_12.2⟩
theorem tells_long (A : Option Addr) (n cp : Nat) (Y c : Int) (w : World) (hT : Tab w) (hm : n ≤ maxLen) (hn : (100 : Int) < (n : Int)) :
    Calls Tryd.prog 3 #[.slice A n cp, .int .i64 Y, .int .i64 c] w fun e w' => e = .returned (.bool true) ∧ Below w.heap.size w w' := by
  unfold maxLen at hm
  go_enter Tryd.func3, Tryd.ntmps3
  go_wp2_with fail
  refine (lives_any _ hT).mono ?_; rintro e w1 ⟨rfl, hb1⟩
  go_wp2_with fail
  go_ret
  exact ⟨rfl, hb1⟩
theorem tells_any (A : Option Addr) (n cp : Nat) (l : List Sp) (Y c : Int) (w : World) (hT : Tab w) (hs : Spans w w.heap.size A n l) (hm : n ≤ maxLen) (hnc : n ≤ cp) (h1 : -9223372036854775808 ≤ c) (h2 : c ≤ 9223372036854775807) :
    Calls Tryd.prog 3 #[.slice A n cp, .int .i64 Y, .int .i64 c] w fun e w' => e = .returned (.bool true) ∧ Below w.heap.size w w' := by
  by_cases hn : (100 : Int) < (n : Int)
  · exact tells_long A n cp Y c w hT hm hn
  · have hs1 := fun w hT => stamp_any c w hT h1 h2
    have hs2 := fun w hT => rstamp_any c w hT h1 h2
    have hy1 := fun w hT hs => year_any A n cp l Y w hT hs hm hnc
    have hy2 := fun w hT hs => ryear_any A n cp l Y w hT hs hm hnc
    cases hY : inY Y with
    | true =>
      obtain ⟨y1, y2⟩ := of_decide_eq_true hY
      exact tells_main A n cp l Y c _ _ _ _ (fyR l Y) (fsV c) (enA Y) (enB Y) w hT hs hm hn hy1 hy2 hs1 hs2 (fun w hT => ends_yes Y w hT y1 y2) (fun w hT => rends_yes Y w hT y1 y2)
    | false =>
      exact tells_main A n cp l Y c _ _ _ _ (fyR l Y) (fsV c) St.nil St.nil w hT hs hm hn hy1 hy2 hs1 hs2 (fun w _ => ends_no Y w hY) (fun w _ => rends_no Y w hY)
end Go.Proofs.YtginidedeefcdaaDoor.Ft
