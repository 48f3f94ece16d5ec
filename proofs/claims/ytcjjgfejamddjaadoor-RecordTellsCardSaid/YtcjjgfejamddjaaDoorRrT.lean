/-
  RecordTells, WALKED.
-/
import Derived.Test.YtcjjgfejamddjaaDoorRecL
import Derived.Test.YtcjjgfejamddjaaDoorRrP
import Derived.Test.YtcjjgfejamddjaaDoorRrV
import Derived.Test.YtcjjgfejamddjaaDoorRrM
import Derived.Deep.RegionHeld3
import Derived.Deep.DrawnRows
namespace Go.Proofs.YtcjjgfejamddjaaDoor.Rf
open Go.ChangeShapes Go.WideShapes Go.ChangeAt Go.RowKit
open Go.Proofs.YtcjjgfejamddjaaDoor
open Go.Proofs.YtcjjgfejamddjaaDoor.Wd
open Go.Proofs.YtcjjgfejamddjaaDoor.Lit
open Go.Proofs.YtcjjgfejamddjaaDoor.Rec
open Go.Proofs.YtcjjgfejamddjaaDoor.Ld
open Go.Proofs.YtcjjgfejamddjaaDoor.Civ (Tab Inv)
set_option linter.unusedVariables false
attribute [local go_sem ↓] Go.wp_at_zero Go.wp_at_succ
attribute [local go_sem ↓] ldR_sem ldS_sem
attribute [local go_sem] ldSem_run
theorem mk_mk {w W : World} {ur ug uh ui uj uk ul : Nat} {b c d gb gc gd mb mc md pb pc pd : Int} {p q gp gq mp mq pp pq : St} (iv : Inv w W) (hr : Blk W ur 53 (rcA b c d p q)) (hg : Blk W ug 53 (rcA gb gc gd gp gq)) (hh : Blk W uh 53 (rcA gb gc gd gp gq)) (hi : Blk W ui 53 (rcA mb mc md mp mq)) (hj : Blk W uj 53 (rcA mb mc md mp mq)) (hk : Blk W uk 53 (rcA pb pc pd pp pq)) (hl : Blk W ul 53 (rcA pb pc pd pp pq)) :
    Inv w W ∧ Blk W ur 53 (rcA b c d p q) ∧ Blk W ug 53 (rcA gb gc gd gp gq) ∧ Blk W uh 53 (rcA gb gc gd gp gq) ∧ Blk W ui 53 (rcA mb mc md mp mq) ∧ Blk W uj 53 (rcA mb mc md mp mq) ∧ Blk W uk 53 (rcA pb pc pd pp pq) ∧ Blk W ul 53 (rcA pb pc pd pp pq) ∧ ldT 53 (.pointer (some ⟨ur, 0, none⟩)) W = some (rcA b c d p q) ∧ ldT 53 (.pointer (some ⟨ug, 0, none⟩)) W = some (rcA gb gc gd gp gq) ∧ ldT 53 (.pointer (some ⟨uh, 0, none⟩)) W = some (rcA gb gc gd gp gq) ∧ ldT 53 (.pointer (some ⟨ui, 0, none⟩)) W = some (rcA mb mc md mp mq) ∧ ldT 53 (.pointer (some ⟨uj, 0, none⟩)) W = some (rcA mb mc md mp mq) ∧ ldT 53 (.pointer (some ⟨uk, 0, none⟩)) W = some (rcA pb pc pd pp pq) ∧ ldT 53 (.pointer (some ⟨ul, 0, none⟩)) W = some (rcA pb pc pd pp pq) :=
  ⟨iv, hr, hg, hh, hi, hj, hk, hl, ldT_of (ld_seg hr Tryd.underlying53 rfl (by kernel_rfl) (by kernel_rfl)), ldT_of (ld_seg hg Tryd.underlying53 rfl (by kernel_rfl) (by kernel_rfl)), ldT_of (ld_seg hh Tryd.underlying53 rfl (by kernel_rfl) (by kernel_rfl)), ldT_of (ld_seg hi Tryd.underlying53 rfl (by kernel_rfl) (by kernel_rfl)), ldT_of (ld_seg hj Tryd.underlying53 rfl (by kernel_rfl) (by kernel_rfl)), ldT_of (ld_seg hk Tryd.underlying53 rfl (by kernel_rfl) (by kernel_rfl)), ldT_of (ld_seg hl Tryd.underlying53 rfl (by kernel_rfl) (by kernel_rfl))⟩
theorem mk_on {w W W2 : World} {ur ug uh ui uj uk ul : Nat} {b c d gb gc gd mb mc md pb pc pd : Int} {p q gp gq mp mq pp pq : St} (h : Inv w W ∧ Blk W ur 53 (rcA b c d p q) ∧ Blk W ug 53 (rcA gb gc gd gp gq) ∧ Blk W uh 53 (rcA gb gc gd gp gq) ∧ Blk W ui 53 (rcA mb mc md mp mq) ∧ Blk W uj 53 (rcA mb mc md mp mq) ∧ Blk W uk 53 (rcA pb pc pd pp pq) ∧ Blk W ul 53 (rcA pb pc pd pp pq) ∧ ldT 53 (.pointer (some ⟨ur, 0, none⟩)) W = some (rcA b c d p q) ∧ ldT 53 (.pointer (some ⟨ug, 0, none⟩)) W = some (rcA gb gc gd gp gq) ∧ ldT 53 (.pointer (some ⟨uh, 0, none⟩)) W = some (rcA gb gc gd gp gq) ∧ ldT 53 (.pointer (some ⟨ui, 0, none⟩)) W = some (rcA mb mc md mp mq) ∧ ldT 53 (.pointer (some ⟨uj, 0, none⟩)) W = some (rcA mb mc md mp mq) ∧ ldT 53 (.pointer (some ⟨uk, 0, none⟩)) W = some (rcA pb pc pd pp pq) ∧ ldT 53 (.pointer (some ⟨ul, 0, none⟩)) W = some (rcA pb pc pd pp pq)) (hbx : Below W.heap.size W W2) :
    Inv w W2 ∧ Blk W2 ur 53 (rcA b c d p q) ∧ Blk W2 ug 53 (rcA gb gc gd gp gq) ∧ Blk W2 uh 53 (rcA gb gc gd gp gq) ∧ Blk W2 ui 53 (rcA mb mc md mp mq) ∧ Blk W2 uj 53 (rcA mb mc md mp mq) ∧ Blk W2 uk 53 (rcA pb pc pd pp pq) ∧ Blk W2 ul 53 (rcA pb pc pd pp pq) ∧ ldT 53 (.pointer (some ⟨ur, 0, none⟩)) W2 = some (rcA b c d p q) ∧ ldT 53 (.pointer (some ⟨ug, 0, none⟩)) W2 = some (rcA gb gc gd gp gq) ∧ ldT 53 (.pointer (some ⟨uh, 0, none⟩)) W2 = some (rcA gb gc gd gp gq) ∧ ldT 53 (.pointer (some ⟨ui, 0, none⟩)) W2 = some (rcA mb mc md mp mq) ∧ ldT 53 (.pointer (some ⟨uj, 0, none⟩)) W2 = some (rcA mb mc md mp mq) ∧ ldT 53 (.pointer (some ⟨uk, 0, none⟩)) W2 = some (rcA pb pc pd pp pq) ∧ ldT 53 (.pointer (some ⟨ul, 0, none⟩)) W2 = some (rcA pb pc pd pp pq) := by
  obtain ⟨iv, hr, hg, hh, hi, hj, hk, hl, _⟩ := h
  exact mk_mk (iv.call hbx) (hr.below hbx hr.lt) (hg.below hbx hg.lt) (hh.below hbx hh.lt) (hi.below hbx hi.lt) (hj.below hbx hj.lt) (hk.below hbx hk.lt) (hl.below hbx hl.lt)
set_option maxRecDepth 100000 in
set_option maxHeartbeats 12800000 in
attribute [-go_sem] run_eql_struct in
theorem tells_main (b c d x y o1 o2 E1 E2 E3 E4 gb gc gd mb mc md pb pc pd : Int) (p q sx sy gp gq mp mq pp pq : St) (s t : ByteArray) (w : World) (hT : Tab w)
    (ho1 : ∀ w, Tab w → Calls Tryd.prog 28 #[rcV b c d p q] w fun e w' => e = .returned (.tuple #[.int .i64 o1, .int .i64 o2]) ∧ Below w.heap.size w w')
    (ho2 : ∀ w, Tab w → Calls Tryd.prog 29 #[rcV b c d p q] w fun e w' => e = .returned (.tuple #[.int .i64 o1, .int .i64 o2]) ∧ Below w.heap.size w w')
    (hf1 : ∀ w, Tab w → Calls Tryd.prog 30 #[.string s] w fun e w' => e = .returned (.tuple #[.agg (rcA gb gc gd gp gq), .int .i64 E1]) ∧ Below w.heap.size w w')
    (hf2 : ∀ w, Tab w → Calls Tryd.prog 31 #[.string s] w fun e w' => e = .returned (.tuple #[.agg (rcA gb gc gd gp gq), .int .i64 E1]) ∧ Below w.heap.size w w')
    (hm1 : ∀ w, Tab w → Calls Tryd.prog 32 #[.int .i64 x, .int .i64 y, .agg (sA sx), .agg (sA sy)] w fun e w' => e = .returned (.tuple #[.agg (rcA mb mc md mp mq), .int .i64 E2]) ∧ Below w.heap.size w w')
    (hm2 : ∀ w, Tab w → Calls Tryd.prog 33 #[.int .i64 x, .int .i64 y, .agg (sA sx), .agg (sA sy)] w fun e w' => e = .returned (.tuple #[.agg (rcA mb mc md mp mq), .int .i64 E2]) ∧ Below w.heap.size w w')
    (hp1 : ∀ w, Tab w → Calls Tryd.prog 34 #[.int .i64 x] w fun e w' => e = .returned (.tuple #[.agg (rcA pb pc pd pp pq), .int .i64 E3]) ∧ Below w.heap.size w w')
    (hp2 : ∀ w, Tab w → Calls Tryd.prog 35 #[.int .i64 x] w fun e w' => e = .returned (.tuple #[.agg (rcA pb pc pd pp pq), .int .i64 E3]) ∧ Below w.heap.size w w')
    (hc1 : ∀ w, Tab w → Calls Tryd.prog 36 #[rcV b c d p q] w fun e w' => e = .returned (.int .i64 E4) ∧ Below w.heap.size w w')
    (hc2 : ∀ w, Tab w → Calls Tryd.prog 37 #[rcV b c d p q] w fun e w' => e = .returned (.int .i64 E4) ∧ Below w.heap.size w w')
    (hb1 : ∀ w, Tab w → Calls Tryd.prog 38 #[rcV b c d p q] w fun e w' => e = .returned (.string t) ∧ Below w.heap.size w w')
    (hb2 : ∀ w, Tab w → Calls Tryd.prog 39 #[rcV b c d p q] w fun e w' => e = .returned (.string t) ∧ Below w.heap.size w w')
    :
    Calls Tryd.prog 7 #[rcV b c d p q, .string s, .int .i64 x, .int .i64 y, .agg (sA sx), .agg (sA sy)] w fun e w' => e = .returned (.bool true) ∧ Below w.heap.size w w' := by
  have i0 := Inv.start hT
  have hq1 : ∀ w, (binOp .eql 53 (.agg (rcA gb gc gd gp gq)) (.agg (rcA gb gc gd gp gq))).run Tryd.prog w = .ok (.bool true) w := fun w => (eq_rc gb gc gd gb gc gd gp gq gp gq w).trans (by rw [show eqR gb gc gd gp gq gb gc gd gp gq = true from eqR_iff.2 ⟨rfl, rfl, rfl, rfl, rfl⟩])
  have hq2 : ∀ w, (binOp .eql 53 (.agg (rcA mb mc md mp mq)) (.agg (rcA mb mc md mp mq))).run Tryd.prog w = .ok (.bool true) w := fun w => (eq_rc mb mc md mb mc md mp mq mp mq w).trans (by rw [show eqR mb mc md mp mq mb mc md mp mq = true from eqR_iff.2 ⟨rfl, rfl, rfl, rfl, rfl⟩])
  have hq3 : ∀ w, (binOp .eql 53 (.agg (rcA pb pc pd pp pq)) (.agg (rcA pb pc pd pp pq))).run Tryd.prog w = .ok (.bool true) w := fun w => (eq_rc pb pc pd pb pc pd pp pq pp pq w).trans (by rw [show eqR pb pc pd pp pq pb pc pd pp pq = true from eqR_iff.2 ⟨rfl, rfl, rfl, rfl, rfl⟩])
  have eE1 : (E1 == E1) = true := by simp
  have eE2 : (E2 == E2) = true := by simp
  have eE3 : (E3 == E3) = true := by simp
  have eE4 : (E4 == E4) = true := by simp
  have eo1 : (o1 == o1) = true := by simp
  have eo2 : (o2 == o2) = true := by simp
  have et : (t.toList == t.toList) = true := by simp
  by_cases hL : (1000 : Int) < (s.size : Int)
  · skip
    go_enter Tryd.func7, Tryd.ntmps7
    go_wp2_with fail
    have r_1 := (((Wd.Blk.new w 53 (rcA b c d p q)).alloc (.cells (sA sx) 41)).alloc (.cells (sA sy) 41))
    have a_1 := ((blk_at (w.alloc (.cells (rcA b c d p q) 53)) 41 (sA sx) (sz1 _ _ rfl)).alloc (.cells (sA sy) 41))
    have b_1 := (blk_at ((w.alloc (.cells (rcA b c d p q) 53)).alloc (.cells (sA sx) 41)) 41 (sA sy) (sz1 _ _ (sz1 _ _ rfl)))
    have inv_1 := (((i0.alloc (.cells (rcA b c d p q) 53)).alloc (.cells (sA sx) 41)).alloc (.cells (sA sy) 41))
    refine (lives_any _ inv_1.1).mono ?_; rintro e w_1 ⟨rfl, hb_1⟩
    have rc_1 := r_1.below hb_1 r_1.lt
    have ac_1 := a_1.below hb_1 a_1.lt
    have bc_1 := b_1.below hb_1 b_1.lt
    have invc_1 := inv_1.call hb_1
    clear r_1 a_1 b_1 inv_1 hb_1
    go_wp2_with fail
    go_ret
    exact ⟨rfl, invc_1.2⟩
  · skip
    go_enter Tryd.func7, Tryd.ntmps7
    go_wp2_with (first | refine wpList_row_g rfl 53 _ rfl _ rfl _ _ _ _ (((Wd.Blk.new w 53 (rcA b c d p q)).alloc (.cells (sA sx) 41)).alloc (.cells (sA sy) 41)) Tryd.underlying53 rfl (by kernel_rfl) ?_)
    have r_1 := (((Wd.Blk.new w 53 (rcA b c d p q)).alloc (.cells (sA sx) 41)).alloc (.cells (sA sy) 41))
    have a_1 := ((blk_at (w.alloc (.cells (rcA b c d p q) 53)) 41 (sA sx) (sz1 _ _ rfl)).alloc (.cells (sA sy) 41))
    have b_1 := (blk_at ((w.alloc (.cells (rcA b c d p q) 53)).alloc (.cells (sA sx) 41)) 41 (sA sy) (sz1 _ _ (sz1 _ _ rfl)))
    have inv_1 := (((i0.alloc (.cells (rcA b c d p q) 53)).alloc (.cells (sA sx) 41)).alloc (.cells (sA sy) 41))
    refine (ho1 _ inv_1.1).mono ?_; rintro e w_1 ⟨rfl, hb_1⟩
    have rc_1 := r_1.below hb_1 r_1.lt
    have ac_1 := a_1.below hb_1 a_1.lt
    have bc_1 := b_1.below hb_1 b_1.lt
    have invc_1 := inv_1.call hb_1
    clear r_1 a_1 b_1 inv_1 hb_1
    go_wp2_with (first | refine wpList_row_g rfl 53 _ rfl _ rfl _ _ _ _ rc_1 Tryd.underlying53 rfl (by kernel_rfl) ?_)
    have r_2 := rc_1
    have a_2 := ac_1
    have b_2 := bc_1
    have inv_2 := invc_1
    refine (ho2 _ inv_2.1).mono ?_; rintro e w_2 ⟨rfl, hb_2⟩
    have rc_2 := r_2.below hb_2 r_2.lt
    have ac_2 := a_2.below hb_2 a_2.lt
    have bc_2 := b_2.below hb_2 b_2.lt
    have invc_2 := inv_2.call hb_2
    clear r_2 a_2 b_2 inv_2 hb_2
    go_wp2_with fail
    have r_3 := rc_2
    have a_3 := ac_2
    have b_3 := bc_2
    have inv_3 := invc_2
    refine (hf1 _ inv_3.1).mono ?_; rintro e w_3 ⟨rfl, hb_3⟩
    have rc_3 := r_3.below hb_3 r_3.lt
    have ac_3 := a_3.below hb_3 a_3.lt
    have bc_3 := b_3.below hb_3 b_3.lt
    have invc_3 := inv_3.call hb_3
    clear r_3 a_3 b_3 inv_3 hb_3
    have r_4 := (rc_3.alloc (.cells (rcA gb gc gd gp gq) 53))
    have a_4 := (ac_3.alloc (.cells (rcA gb gc gd gp gq) 53))
    have b_4 := (bc_3.alloc (.cells (rcA gb gc gd gp gq) 53))
    have g_4 := (Wd.Blk.new w_3 53 (rcA gb gc gd gp gq))
    have inv_4 := (invc_3.alloc (.cells (rcA gb gc gd gp gq) 53))
    go_wp2_with (first | refine wpList_store_new rfl 53 _ _ rfl rfl w_3.heap.size (rcA gb gc gd gp gq) rfl rfl _ z19 w_3 rfl rfl rfl (by kernel_rfl) (by kernel_rfl) ?_)
    have r_5 := r_4
    have a_5 := a_4
    have b_5 := b_4
    have g_5 := g_4
    have inv_5 := inv_4
    refine (hf2 _ inv_5.1).mono ?_; rintro e w_5 ⟨rfl, hb_5⟩
    have rc_5 := r_5.below hb_5 r_5.lt
    have ac_5 := a_5.below hb_5 a_5.lt
    have bc_5 := b_5.below hb_5 b_5.lt
    have gc_5 := g_5.below hb_5 g_5.lt
    have invc_5 := inv_5.call hb_5
    clear r_5 a_5 b_5 g_5 inv_5 hb_5
    have r_6 := (rc_5.alloc (.cells (rcA gb gc gd gp gq) 53))
    have a_6 := (ac_5.alloc (.cells (rcA gb gc gd gp gq) 53))
    have b_6 := (bc_5.alloc (.cells (rcA gb gc gd gp gq) 53))
    have g_6 := (gc_5.alloc (.cells (rcA gb gc gd gp gq) 53))
    have h_6 := (Wd.Blk.new w_5 53 (rcA gb gc gd gp gq))
    have inv_6 := (invc_5.alloc (.cells (rcA gb gc gd gp gq) 53))
    go_wp2_with (first | refine wpList_store_new rfl 53 _ _ rfl rfl w_5.heap.size (rcA gb gc gd gp gq) rfl rfl _ z19 w_5 rfl rfl rfl (by kernel_rfl) (by kernel_rfl) ?_ | refine wpList_row_g rfl 41 _ rfl _ rfl _ _ _ _ a_6 Tryd.underlying41 rfl (by kernel_rfl) ?_ | refine wpList_row_g rfl 41 _ rfl _ rfl _ _ _ _ b_6 Tryd.underlying41 rfl (by kernel_rfl) ?_)
    have r_7 := r_6
    have a_7 := a_6
    have b_7 := b_6
    have g_7 := g_6
    have h_7 := h_6
    have inv_7 := inv_6
    refine (hm1 _ inv_7.1).mono ?_; rintro e w_7 ⟨rfl, hb_7⟩
    have rc_7 := r_7.below hb_7 r_7.lt
    have ac_7 := a_7.below hb_7 a_7.lt
    have bc_7 := b_7.below hb_7 b_7.lt
    have gc_7 := g_7.below hb_7 g_7.lt
    have hc_7 := h_7.below hb_7 h_7.lt
    have invc_7 := inv_7.call hb_7
    clear r_7 a_7 b_7 g_7 h_7 inv_7 hb_7
    have r_8 := (rc_7.alloc (.cells (rcA mb mc md mp mq) 53))
    have a_8 := (ac_7.alloc (.cells (rcA mb mc md mp mq) 53))
    have b_8 := (bc_7.alloc (.cells (rcA mb mc md mp mq) 53))
    have g_8 := (gc_7.alloc (.cells (rcA mb mc md mp mq) 53))
    have h_8 := (hc_7.alloc (.cells (rcA mb mc md mp mq) 53))
    have i_8 := (Wd.Blk.new w_7 53 (rcA mb mc md mp mq))
    have inv_8 := (invc_7.alloc (.cells (rcA mb mc md mp mq) 53))
    go_wp2_with (first | refine wpList_store_new rfl 53 _ _ rfl rfl w_7.heap.size (rcA mb mc md mp mq) rfl rfl _ z19 w_7 rfl rfl rfl (by kernel_rfl) (by kernel_rfl) ?_ | refine wpList_row_g rfl 41 _ rfl _ rfl _ _ _ _ a_8 Tryd.underlying41 rfl (by kernel_rfl) ?_ | refine wpList_row_g rfl 41 _ rfl _ rfl _ _ _ _ b_8 Tryd.underlying41 rfl (by kernel_rfl) ?_)
    have r_9 := r_8
    have a_9 := a_8
    have b_9 := b_8
    have g_9 := g_8
    have h_9 := h_8
    have i_9 := i_8
    have inv_9 := inv_8
    refine (hm2 _ inv_9.1).mono ?_; rintro e w_9 ⟨rfl, hb_9⟩
    have rc_9 := r_9.below hb_9 r_9.lt
    have ac_9 := a_9.below hb_9 a_9.lt
    have bc_9 := b_9.below hb_9 b_9.lt
    have gc_9 := g_9.below hb_9 g_9.lt
    have hc_9 := h_9.below hb_9 h_9.lt
    have ic_9 := i_9.below hb_9 i_9.lt
    have invc_9 := inv_9.call hb_9
    clear r_9 a_9 b_9 g_9 h_9 i_9 inv_9 hb_9
    have r_10 := (rc_9.alloc (.cells (rcA mb mc md mp mq) 53))
    have a_10 := (ac_9.alloc (.cells (rcA mb mc md mp mq) 53))
    have b_10 := (bc_9.alloc (.cells (rcA mb mc md mp mq) 53))
    have g_10 := (gc_9.alloc (.cells (rcA mb mc md mp mq) 53))
    have h_10 := (hc_9.alloc (.cells (rcA mb mc md mp mq) 53))
    have i_10 := (ic_9.alloc (.cells (rcA mb mc md mp mq) 53))
    have j_10 := (Wd.Blk.new w_9 53 (rcA mb mc md mp mq))
    have inv_10 := (invc_9.alloc (.cells (rcA mb mc md mp mq) 53))
    go_wp2_with (first | refine wpList_store_new rfl 53 _ _ rfl rfl w_9.heap.size (rcA mb mc md mp mq) rfl rfl _ z19 w_9 rfl rfl rfl (by kernel_rfl) (by kernel_rfl) ?_)
    have r_11 := r_10
    have a_11 := a_10
    have b_11 := b_10
    have g_11 := g_10
    have h_11 := h_10
    have i_11 := i_10
    have j_11 := j_10
    have inv_11 := inv_10
    refine (hp1 _ inv_11.1).mono ?_; rintro e w_11 ⟨rfl, hb_11⟩
    have rc_11 := r_11.below hb_11 r_11.lt
    have ac_11 := a_11.below hb_11 a_11.lt
    have bc_11 := b_11.below hb_11 b_11.lt
    have gc_11 := g_11.below hb_11 g_11.lt
    have hc_11 := h_11.below hb_11 h_11.lt
    have ic_11 := i_11.below hb_11 i_11.lt
    have jc_11 := j_11.below hb_11 j_11.lt
    have invc_11 := inv_11.call hb_11
    clear r_11 a_11 b_11 g_11 h_11 i_11 j_11 inv_11 hb_11
    have r_12 := (rc_11.alloc (.cells (rcA pb pc pd pp pq) 53))
    have a_12 := (ac_11.alloc (.cells (rcA pb pc pd pp pq) 53))
    have b_12 := (bc_11.alloc (.cells (rcA pb pc pd pp pq) 53))
    have g_12 := (gc_11.alloc (.cells (rcA pb pc pd pp pq) 53))
    have h_12 := (hc_11.alloc (.cells (rcA pb pc pd pp pq) 53))
    have i_12 := (ic_11.alloc (.cells (rcA pb pc pd pp pq) 53))
    have j_12 := (jc_11.alloc (.cells (rcA pb pc pd pp pq) 53))
    have k_12 := (Wd.Blk.new w_11 53 (rcA pb pc pd pp pq))
    have inv_12 := (invc_11.alloc (.cells (rcA pb pc pd pp pq) 53))
    go_wp2_with (first | refine wpList_store_new rfl 53 _ _ rfl rfl w_11.heap.size (rcA pb pc pd pp pq) rfl rfl _ z19 w_11 rfl rfl rfl (by kernel_rfl) (by kernel_rfl) ?_)
    have r_13 := r_12
    have a_13 := a_12
    have b_13 := b_12
    have g_13 := g_12
    have h_13 := h_12
    have i_13 := i_12
    have j_13 := j_12
    have k_13 := k_12
    have inv_13 := inv_12
    refine (hp2 _ inv_13.1).mono ?_; rintro e w_13 ⟨rfl, hb_13⟩
    have rc_13 := r_13.below hb_13 r_13.lt
    have ac_13 := a_13.below hb_13 a_13.lt
    have bc_13 := b_13.below hb_13 b_13.lt
    have gc_13 := g_13.below hb_13 g_13.lt
    have hc_13 := h_13.below hb_13 h_13.lt
    have ic_13 := i_13.below hb_13 i_13.lt
    have jc_13 := j_13.below hb_13 j_13.lt
    have kc_13 := k_13.below hb_13 k_13.lt
    have invc_13 := inv_13.call hb_13
    clear r_13 a_13 b_13 g_13 h_13 i_13 j_13 k_13 inv_13 hb_13
    have r_14 := (rc_13.alloc (.cells (rcA pb pc pd pp pq) 53))
    have a_14 := (ac_13.alloc (.cells (rcA pb pc pd pp pq) 53))
    have b_14 := (bc_13.alloc (.cells (rcA pb pc pd pp pq) 53))
    have g_14 := (gc_13.alloc (.cells (rcA pb pc pd pp pq) 53))
    have h_14 := (hc_13.alloc (.cells (rcA pb pc pd pp pq) 53))
    have i_14 := (ic_13.alloc (.cells (rcA pb pc pd pp pq) 53))
    have j_14 := (jc_13.alloc (.cells (rcA pb pc pd pp pq) 53))
    have k_14 := (kc_13.alloc (.cells (rcA pb pc pd pp pq) 53))
    have l_14 := (Wd.Blk.new w_13 53 (rcA pb pc pd pp pq))
    have inv_14 := (invc_13.alloc (.cells (rcA pb pc pd pp pq) 53))
    go_upto_region 11 with (first | refine wpList_store_new rfl 53 _ _ rfl rfl w_13.heap.size (rcA pb pc pd pp pq) rfl rfl _ z19 w_13 rfl rfl rfl (by kernel_rfl) (by kernel_rfl) ?_)
    have r_15 := r_14
    have g_15 := g_14
    have h_15 := h_14
    have i_15 := i_14
    have j_15 := j_14
    have k_15 := k_14
    have l_15 := l_14
    have inv_15 := inv_14
    have ZZ := Lib.hid (mk_mk inv_15.drew r_15 g_15 h_15 i_15 j_15 k_15 l_15)
    clear inv_15 r_15 g_15 h_15 i_15 j_15 k_15 l_15 ho1 ho2 hf1 hf2 hm1 hm2 hp1 hp2 i0
    generalize (w_13.alloc (.cells (rcA pb pc pd pp pq) 53)) = W at *
    generalize hgul : w_13.heap.size = ul at *
    generalize hguk : w_11.heap.size = uk at *
    generalize hguj : w_9.heap.size = uj at *
    generalize hgui : w_7.heap.size = ui at *
    generalize hguh : w_5.heap.size = uh at *
    generalize hgug : w_3.heap.size = ug at *
    generalize hgur : w.heap.size = ur at *
    clear hgul hguk hguj hgui hguh hgug hgur
    refine wp_region_held_drew (S := fun w' => Inv w w' ∧ Blk w' ur 53 (rcA b c d p q) ∧ Blk w' ug 53 (rcA gb gc gd gp gq) ∧ Blk w' uh 53 (rcA gb gc gd gp gq) ∧ Blk w' ui 53 (rcA mb mc md mp mq) ∧ Blk w' uj 53 (rcA mb mc md mp mq) ∧ Blk w' uk 53 (rcA pb pc pd pp pq) ∧ Blk w' ul 53 (rcA pb pc pd pp pq) ∧ ldT 53 (.pointer (some ⟨ur, 0, none⟩)) w' = some (rcA b c d p q) ∧ ldT 53 (.pointer (some ⟨ug, 0, none⟩)) w' = some (rcA gb gc gd gp gq) ∧ ldT 53 (.pointer (some ⟨uh, 0, none⟩)) w' = some (rcA gb gc gd gp gq) ∧ ldT 53 (.pointer (some ⟨ui, 0, none⟩)) w' = some (rcA mb mc md mp mq) ∧ ldT 53 (.pointer (some ⟨uj, 0, none⟩)) w' = some (rcA mb mc md mp mq) ∧ ldT 53 (.pointer (some ⟨uk, 0, none⟩)) w' = some (rcA pb pc pd pp pq) ∧ ldT 53 (.pointer (some ⟨ul, 0, none⟩)) w' = some (rcA pb pc pd pp pq)) (by kernel_rfl) (ZZ.out) (fun hHeld => ?_)
    refine wpAnyH_ready (rs := [0]) (by kernel_rfl) (by simp) ?_
    refine AllReadyH.cons (o := { dst := some 79, op := Op.call { callee := Callee.value (Operand.func 27), args := #[], argTypes := #[] }, type := 4, pos := "law.go:39", after := #[], guard := none }) rfl (fun K hK => ?_) (AllReadyH.nil)
    go_simp
    refine (lives_any _ hHeld.1.1).mono ?_; rintro e w_51 ⟨rfl, hb_51⟩
    try go_wp2_with fail
    refine hK.out _ _ (mk_on hHeld hb_51) (fun hHeld2 => ?_)
    clear hK K hHeld; have hHeld := hHeld2; clear hHeld2
    try simp only [Act.put, List.setIfInBounds_toArray, List.set_cons_zero, List.set_cons_succ]
    refine wpAnyH_take (i := 1) (oi := { dst := some 80, op := Op.move (Operand.tmp 79), type := 4, pos := "law.go:39", after := #[{ on := 0, ground := Ground.data }, { on := 0, ground := Ground.chain }], guard := none }) (v := ?_) rfl (by kernel_rfl) (by kernel_rfl) (by kernel_rfl) (fun _ _ _ h => h) (Or.inl ⟨by rfl, ?_⟩) hHeld ?_
    rotate_left
    · intro w hSw
      try dsimp only at hSw
      go_simp
      try with_reducible rfl
    try simp only [Act.put, List.setIfInBounds_toArray, List.set_cons_zero, List.set_cons_succ]
    refine wpAnyH_take (i := 2) (oi := { dst := some 81, op := Op.load 53 (Operand.tmp 6), type := 53, pos := "law.go:39", after := #[{ on := 1, ground := Ground.guard }], guard := some (1, true) }) (v := ?_) rfl (by kernel_rfl) (by kernel_rfl) (by kernel_rfl) (fun _ _ _ h => h) (Or.inl ⟨by rfl, ?_⟩) hHeld ?_
    rotate_left
    · intro w hSw
      try dsimp only at hSw
      go_simp
      try with_reducible rfl
    try simp only [Act.put, List.setIfInBounds_toArray, List.set_cons_zero, List.set_cons_succ]
    refine wpAnyH_take (i := 4) (oi := { dst := some 83, op := Op.load 53 (Operand.tmp 6), type := 53, pos := "law.go:39", after := #[{ on := 1, ground := Ground.guard }], guard := some (1, true) }) (v := ?_) rfl (by kernel_rfl) (by kernel_rfl) (by kernel_rfl) (fun _ _ _ h => h) (Or.inl ⟨by rfl, ?_⟩) hHeld ?_
    rotate_left
    · intro w hSw
      try dsimp only at hSw
      go_simp
      try with_reducible rfl
    try simp only [Act.put, List.setIfInBounds_toArray, List.set_cons_zero, List.set_cons_succ]
    refine wpAnyH_ready (rs := [3]) (by kernel_rfl) (by simp) ?_
    refine AllReadyH.cons (o := { dst := some 82, op := Op.call { callee := Callee.value (Operand.func 36), args := #[Operand.tmp 81], argTypes := #[53] }, type := 28, pos := "law.go:39", after := #[{ on := 2, ground := Ground.data }, { on := 1, ground := Ground.chain }, { on := 1, ground := Ground.guard }], guard := some (1, true) }) rfl (fun K hK => ?_) (AllReadyH.nil)
    go_simp
    refine (hc1 _ hHeld.1.1).mono ?_; rintro e w_52 ⟨rfl, hb_52⟩
    try go_wp2_with fail
    refine hK.out _ _ (mk_on hHeld hb_52) (fun hHeld2 => ?_)
    clear hK K hHeld; have hHeld := hHeld2; clear hHeld2
    try simp only [Act.put, List.setIfInBounds_toArray, List.set_cons_zero, List.set_cons_succ]
    refine wpAnyH_ready (rs := [5]) (by kernel_rfl) (by simp) ?_
    refine AllReadyH.cons (o := { dst := some 84, op := Op.call { callee := Callee.value (Operand.func 37), args := #[Operand.tmp 83], argTypes := #[53] }, type := 28, pos := "law.go:39", after := #[{ on := 4, ground := Ground.data }, { on := 3, ground := Ground.chain }, { on := 1, ground := Ground.guard }], guard := some (1, true) }) rfl (fun K hK => ?_) (AllReadyH.nil)
    go_simp
    refine (hc2 _ hHeld.1.1).mono ?_; rintro e w_53 ⟨rfl, hb_53⟩
    try go_wp2_with fail
    refine hK.out _ _ (mk_on hHeld hb_53) (fun hHeld2 => ?_)
    clear hK K hHeld; have hHeld := hHeld2; clear hHeld2
    try simp only [Act.put, List.setIfInBounds_toArray, List.set_cons_zero, List.set_cons_succ]
    refine wpAnyH_take (i := 6) (oi := { dst := some 85, op := Op.binOp BinOp.eql 28 (Operand.tmp 82) (Operand.tmp 84) 28, type := 4, pos := "law.go:39", after := #[{ on := 3, ground := Ground.data }, { on := 5, ground := Ground.data }, { on := 1, ground := Ground.guard }], guard := some (1, true) }) (v := ?_) rfl (by kernel_rfl) (by kernel_rfl) (by kernel_rfl) (fun _ _ _ h => h) (Or.inl ⟨by rfl, ?_⟩) hHeld ?_
    rotate_left
    · intro w hSw
      try dsimp only at hSw
      go_simp
      try with_reducible rfl
    try simp only [Act.put, List.setIfInBounds_toArray, List.set_cons_zero, List.set_cons_succ]
    refine wpAnyH_take (i := 7) (oi := { dst := some 86, op := Op.pick (Operand.tmp 80) (Operand.tmp 85) (Operand.const (Value.bool false)), type := 4, pos := "law.go:39", after := #[{ on := 1, ground := Ground.data }, { on := 6, ground := Ground.data }], guard := none }) (v := ?_) rfl (by kernel_rfl) (by kernel_rfl) (by kernel_rfl) (fun _ _ _ h => h) (Or.inl ⟨by rfl, ?_⟩) hHeld ?_
    rotate_left
    · intro w hSw
      try dsimp only at hSw
      go_simp
      try with_reducible rfl
    try simp only [Act.put, List.setIfInBounds_toArray, List.set_cons_zero, List.set_cons_succ]
    refine wpAnyH_take (i := 8) (oi := { dst := some 87, op := Op.move (Operand.tmp 86), type := 4, pos := "law.go:39", after := #[{ on := 7, ground := Ground.data }, { on := 5, ground := Ground.chain }], guard := none }) (v := ?_) rfl (by kernel_rfl) (by kernel_rfl) (by kernel_rfl) (fun _ _ _ h => h) (Or.inl ⟨by rfl, ?_⟩) hHeld ?_
    rotate_left
    · intro w hSw
      try dsimp only at hSw
      go_simp
      try with_reducible rfl
    try simp only [Act.put, List.setIfInBounds_toArray, List.set_cons_zero, List.set_cons_succ]
    refine wpAnyH_take (i := 9) (oi := { dst := some 88, op := Op.move (Operand.tmp 13), type := 2, pos := "law.go:39", after := #[{ on := 8, ground := Ground.guard }], guard := some (8, true) }) (v := ?_) rfl (by kernel_rfl) (by kernel_rfl) (by kernel_rfl) (fun _ _ _ h => h) (Or.inl ⟨by rfl, ?_⟩) hHeld ?_
    rotate_left
    · intro w hSw
      try dsimp only at hSw
      go_simp
      try with_reducible rfl
    try simp only [Act.put, List.setIfInBounds_toArray, List.set_cons_zero, List.set_cons_succ]
    refine wpAnyH_take (i := 10) (oi := { dst := some 89, op := Op.move (Operand.tmp 15), type := 2, pos := "law.go:39", after := #[{ on := 8, ground := Ground.guard }], guard := some (8, true) }) (v := ?_) rfl (by kernel_rfl) (by kernel_rfl) (by kernel_rfl) (fun _ _ _ h => h) (Or.inl ⟨by rfl, ?_⟩) hHeld ?_
    rotate_left
    · intro w hSw
      try dsimp only at hSw
      go_simp
      try with_reducible rfl
    try simp only [Act.put, List.setIfInBounds_toArray, List.set_cons_zero, List.set_cons_succ]
    refine wpAnyH_take (i := 11) (oi := { dst := some 90, op := Op.binOp BinOp.eql 2 (Operand.tmp 88) (Operand.tmp 89) 2, type := 4, pos := "law.go:39", after := #[{ on := 9, ground := Ground.data }, { on := 10, ground := Ground.data }, { on := 8, ground := Ground.guard }], guard := some (8, true) }) (v := ?_) rfl (by kernel_rfl) (by kernel_rfl) (by kernel_rfl) (fun _ _ _ h => h) (Or.inl ⟨by rfl, ?_⟩) hHeld ?_
    rotate_left
    · intro w hSw
      try dsimp only at hSw
      go_simp
      try with_reducible rfl
    try simp only [Act.put, List.setIfInBounds_toArray, List.set_cons_zero, List.set_cons_succ]
    refine wpAnyH_take (i := 12) (oi := { dst := some 91, op := Op.pick (Operand.tmp 87) (Operand.tmp 90) (Operand.const (Value.bool false)), type := 4, pos := "law.go:39", after := #[{ on := 8, ground := Ground.data }, { on := 11, ground := Ground.data }], guard := none }) (v := ?_) rfl (by kernel_rfl) (by kernel_rfl) (by kernel_rfl) (fun _ _ _ h => h) (Or.inl ⟨by rfl, ?_⟩) hHeld ?_
    rotate_left
    · intro w hSw
      try dsimp only at hSw
      go_simp
      try with_reducible rfl
    try simp only [Act.put, List.setIfInBounds_toArray, List.set_cons_zero, List.set_cons_succ]
    refine wpAnyH_take (i := 13) (oi := { dst := some 92, op := Op.move (Operand.tmp 91), type := 4, pos := "law.go:39", after := #[{ on := 12, ground := Ground.data }, { on := 8, ground := Ground.chain }], guard := none }) (v := ?_) rfl (by kernel_rfl) (by kernel_rfl) (by kernel_rfl) (fun _ _ _ h => h) (Or.inl ⟨by rfl, ?_⟩) hHeld ?_
    rotate_left
    · intro w hSw
      try dsimp only at hSw
      go_simp
      try with_reducible rfl
    try simp only [Act.put, List.setIfInBounds_toArray, List.set_cons_zero, List.set_cons_succ]
    refine wpAnyH_take (i := 14) (oi := { dst := some 93, op := Op.move (Operand.tmp 14), type := 2, pos := "law.go:39", after := #[{ on := 13, ground := Ground.guard }], guard := some (13, true) }) (v := ?_) rfl (by kernel_rfl) (by kernel_rfl) (by kernel_rfl) (fun _ _ _ h => h) (Or.inl ⟨by rfl, ?_⟩) hHeld ?_
    rotate_left
    · intro w hSw
      try dsimp only at hSw
      go_simp
      try with_reducible rfl
    try simp only [Act.put, List.setIfInBounds_toArray, List.set_cons_zero, List.set_cons_succ]
    refine wpAnyH_take (i := 15) (oi := { dst := some 94, op := Op.move (Operand.tmp 16), type := 2, pos := "law.go:39", after := #[{ on := 13, ground := Ground.guard }], guard := some (13, true) }) (v := ?_) rfl (by kernel_rfl) (by kernel_rfl) (by kernel_rfl) (fun _ _ _ h => h) (Or.inl ⟨by rfl, ?_⟩) hHeld ?_
    rotate_left
    · intro w hSw
      try dsimp only at hSw
      go_simp
      try with_reducible rfl
    try simp only [Act.put, List.setIfInBounds_toArray, List.set_cons_zero, List.set_cons_succ]
    refine wpAnyH_take (i := 16) (oi := { dst := some 95, op := Op.binOp BinOp.eql 2 (Operand.tmp 93) (Operand.tmp 94) 2, type := 4, pos := "law.go:39", after := #[{ on := 14, ground := Ground.data }, { on := 15, ground := Ground.data }, { on := 13, ground := Ground.guard }], guard := some (13, true) }) (v := ?_) rfl (by kernel_rfl) (by kernel_rfl) (by kernel_rfl) (fun _ _ _ h => h) (Or.inl ⟨by rfl, ?_⟩) hHeld ?_
    rotate_left
    · intro w hSw
      try dsimp only at hSw
      go_simp
      try with_reducible rfl
    try simp only [Act.put, List.setIfInBounds_toArray, List.set_cons_zero, List.set_cons_succ]
    refine wpAnyH_take (i := 17) (oi := { dst := some 96, op := Op.pick (Operand.tmp 92) (Operand.tmp 95) (Operand.const (Value.bool false)), type := 4, pos := "law.go:39", after := #[{ on := 13, ground := Ground.data }, { on := 16, ground := Ground.data }], guard := none }) (v := ?_) rfl (by kernel_rfl) (by kernel_rfl) (by kernel_rfl) (fun _ _ _ h => h) (Or.inl ⟨by rfl, ?_⟩) hHeld ?_
    rotate_left
    · intro w hSw
      try dsimp only at hSw
      go_simp
      try with_reducible rfl
    try simp only [Act.put, List.setIfInBounds_toArray, List.set_cons_zero, List.set_cons_succ]
    refine wpAnyH_take (i := 18) (oi := { dst := some 97, op := Op.move (Operand.tmp 96), type := 4, pos := "law.go:39", after := #[{ on := 17, ground := Ground.data }, { on := 13, ground := Ground.chain }], guard := none }) (v := ?_) rfl (by kernel_rfl) (by kernel_rfl) (by kernel_rfl) (fun _ _ _ h => h) (Or.inl ⟨by rfl, ?_⟩) hHeld ?_
    rotate_left
    · intro w hSw
      try dsimp only at hSw
      go_simp
      try with_reducible rfl
    try simp only [Act.put, List.setIfInBounds_toArray, List.set_cons_zero, List.set_cons_succ]
    refine wpAnyH_take (i := 19) (oi := { dst := some 98, op := Op.load 53 (Operand.tmp 6), type := 53, pos := "law.go:39", after := #[{ on := 18, ground := Ground.guard }], guard := some (18, true) }) (v := ?_) rfl (by kernel_rfl) (by kernel_rfl) (by kernel_rfl) (fun _ _ _ h => h) (Or.inl ⟨by rfl, ?_⟩) hHeld ?_
    rotate_left
    · intro w hSw
      try dsimp only at hSw
      go_simp
      try with_reducible rfl
    try simp only [Act.put, List.setIfInBounds_toArray, List.set_cons_zero, List.set_cons_succ]
    refine wpAnyH_take (i := 21) (oi := { dst := some 100, op := Op.load 53 (Operand.tmp 6), type := 53, pos := "law.go:39", after := #[{ on := 18, ground := Ground.guard }], guard := some (18, true) }) (v := ?_) rfl (by kernel_rfl) (by kernel_rfl) (by kernel_rfl) (fun _ _ _ h => h) (Or.inl ⟨by rfl, ?_⟩) hHeld ?_
    rotate_left
    · intro w hSw
      try dsimp only at hSw
      go_simp
      try with_reducible rfl
    try simp only [Act.put, List.setIfInBounds_toArray, List.set_cons_zero, List.set_cons_succ]
    refine wpAnyH_ready (rs := [20]) (by kernel_rfl) (by simp) ?_
    refine AllReadyH.cons (o := { dst := some 99, op := Op.call { callee := Callee.value (Operand.func 38), args := #[Operand.tmp 98], argTypes := #[53] }, type := 9, pos := "law.go:39", after := #[{ on := 19, ground := Ground.data }, { on := 18, ground := Ground.chain }, { on := 18, ground := Ground.guard }], guard := some (18, true) }) rfl (fun K hK => ?_) (AllReadyH.nil)
    go_simp
    refine (hb1 _ hHeld.1.1).mono ?_; rintro e w_54 ⟨rfl, hb_54⟩
    try go_wp2_with fail
    refine hK.out _ _ (mk_on hHeld hb_54) (fun hHeld2 => ?_)
    clear hK K hHeld; have hHeld := hHeld2; clear hHeld2
    try simp only [Act.put, List.setIfInBounds_toArray, List.set_cons_zero, List.set_cons_succ]
    refine wpAnyH_ready (rs := [22]) (by kernel_rfl) (by simp) ?_
    refine AllReadyH.cons (o := { dst := some 101, op := Op.call { callee := Callee.value (Operand.func 39), args := #[Operand.tmp 100], argTypes := #[53] }, type := 9, pos := "law.go:39", after := #[{ on := 21, ground := Ground.data }, { on := 20, ground := Ground.chain }, { on := 18, ground := Ground.guard }], guard := some (18, true) }) rfl (fun K hK => ?_) (AllReadyH.nil)
    go_simp
    refine (hb2 _ hHeld.1.1).mono ?_; rintro e w_55 ⟨rfl, hb_55⟩
    try go_wp2_with fail
    refine hK.out _ _ (mk_on hHeld hb_55) (fun hHeld2 => ?_)
    clear hK K hHeld; have hHeld := hHeld2; clear hHeld2
    try simp only [Act.put, List.setIfInBounds_toArray, List.set_cons_zero, List.set_cons_succ]
    refine wpAnyH_take (i := 23) (oi := { dst := some 102, op := Op.binOp BinOp.eql 9 (Operand.tmp 99) (Operand.tmp 101) 9, type := 4, pos := "law.go:39", after := #[{ on := 20, ground := Ground.data }, { on := 22, ground := Ground.data }, { on := 18, ground := Ground.guard }], guard := some (18, true) }) (v := ?_) rfl (by kernel_rfl) (by kernel_rfl) (by kernel_rfl) (fun _ _ _ h => h) (Or.inl ⟨by rfl, ?_⟩) hHeld ?_
    rotate_left
    · intro w hSw
      try dsimp only at hSw
      go_simp
      try with_reducible rfl
    try simp only [Act.put, List.setIfInBounds_toArray, List.set_cons_zero, List.set_cons_succ]
    refine wpAnyH_take (i := 24) (oi := { dst := some 103, op := Op.pick (Operand.tmp 97) (Operand.tmp 102) (Operand.const (Value.bool false)), type := 4, pos := "law.go:39", after := #[{ on := 18, ground := Ground.data }, { on := 23, ground := Ground.data }], guard := none }) (v := ?_) rfl (by kernel_rfl) (by kernel_rfl) (by kernel_rfl) (fun _ _ _ h => h) (Or.inl ⟨by rfl, ?_⟩) hHeld ?_
    rotate_left
    · intro w hSw
      try dsimp only at hSw
      go_simp
      try with_reducible rfl
    try simp only [Act.put, List.setIfInBounds_toArray, List.set_cons_zero, List.set_cons_succ]
    refine wpAnyH_take (i := 25) (oi := { dst := some 104, op := Op.move (Operand.tmp 103), type := 4, pos := "law.go:39", after := #[{ on := 24, ground := Ground.data }, { on := 22, ground := Ground.chain }], guard := none }) (v := ?_) rfl (by kernel_rfl) (by kernel_rfl) (by kernel_rfl) (fun _ _ _ h => h) (Or.inl ⟨by rfl, ?_⟩) hHeld ?_
    rotate_left
    · intro w hSw
      try dsimp only at hSw
      go_simp
      try with_reducible rfl
    try simp only [Act.put, List.setIfInBounds_toArray, List.set_cons_zero, List.set_cons_succ]
    refine wpAnyH_take (i := 26) (oi := { dst := some 105, op := Op.load 53 (Operand.tmp 17), type := 53, pos := "law.go:39", after := #[{ on := 25, ground := Ground.guard }], guard := some (25, true) }) (v := ?_) rfl (by kernel_rfl) (by kernel_rfl) (by kernel_rfl) (fun _ _ _ h => h) (Or.inl ⟨by rfl, ?_⟩) hHeld ?_
    rotate_left
    · intro w hSw
      try dsimp only at hSw
      go_simp
      try with_reducible rfl
    try simp only [Act.put, List.setIfInBounds_toArray, List.set_cons_zero, List.set_cons_succ]
    refine wpAnyH_take (i := 27) (oi := { dst := some 106, op := Op.load 53 (Operand.tmp 19), type := 53, pos := "law.go:39", after := #[{ on := 25, ground := Ground.guard }], guard := some (25, true) }) (v := ?_) rfl (by kernel_rfl) (by kernel_rfl) (by kernel_rfl) (fun _ _ _ h => h) (Or.inl ⟨by rfl, ?_⟩) hHeld ?_
    rotate_left
    · intro w hSw
      try dsimp only at hSw
      go_simp
      try with_reducible rfl
    try simp only [Act.put, List.setIfInBounds_toArray, List.set_cons_zero, List.set_cons_succ]
    refine wpAnyH_take (i := 28) (oi := { dst := some 107, op := Op.binOp BinOp.eql 53 (Operand.tmp 105) (Operand.tmp 106) 53, type := 4, pos := "law.go:39", after := #[{ on := 26, ground := Ground.data }, { on := 27, ground := Ground.data }, { on := 25, ground := Ground.guard }], guard := some (25, true) }) (v := ?_) rfl (by kernel_rfl) (by kernel_rfl) (by kernel_rfl) (fun _ _ _ h => h) (Or.inl ⟨by rfl, ?_⟩) hHeld ?_
    rotate_left
    · intro w hSw
      try dsimp only at hSw
      go_simp
      try with_reducible rfl
    try simp only [Act.put, List.setIfInBounds_toArray, List.set_cons_zero, List.set_cons_succ]
    refine wpAnyH_take (i := 29) (oi := { dst := some 108, op := Op.pick (Operand.tmp 104) (Operand.tmp 107) (Operand.const (Value.bool false)), type := 4, pos := "law.go:39", after := #[{ on := 25, ground := Ground.data }, { on := 28, ground := Ground.data }], guard := none }) (v := ?_) rfl (by kernel_rfl) (by kernel_rfl) (by kernel_rfl) (fun _ _ _ h => h) (Or.inl ⟨by rfl, ?_⟩) hHeld ?_
    rotate_left
    · intro w hSw
      try dsimp only at hSw
      go_simp
      try with_reducible rfl
    try simp only [Act.put, List.setIfInBounds_toArray, List.set_cons_zero, List.set_cons_succ]
    refine wpAnyH_take (i := 30) (oi := { dst := some 109, op := Op.move (Operand.tmp 108), type := 4, pos := "law.go:39", after := #[{ on := 29, ground := Ground.data }, { on := 25, ground := Ground.chain }], guard := none }) (v := ?_) rfl (by kernel_rfl) (by kernel_rfl) (by kernel_rfl) (fun _ _ _ h => h) (Or.inl ⟨by rfl, ?_⟩) hHeld ?_
    rotate_left
    · intro w hSw
      try dsimp only at hSw
      go_simp
      try with_reducible rfl
    try simp only [Act.put, List.setIfInBounds_toArray, List.set_cons_zero, List.set_cons_succ]
    refine wpAnyH_take (i := 31) (oi := { dst := some 110, op := Op.move (Operand.tmp 18), type := 28, pos := "law.go:39", after := #[{ on := 30, ground := Ground.guard }], guard := some (30, true) }) (v := ?_) rfl (by kernel_rfl) (by kernel_rfl) (by kernel_rfl) (fun _ _ _ h => h) (Or.inl ⟨by rfl, ?_⟩) hHeld ?_
    rotate_left
    · intro w hSw
      try dsimp only at hSw
      go_simp
      try with_reducible rfl
    try simp only [Act.put, List.setIfInBounds_toArray, List.set_cons_zero, List.set_cons_succ]
    refine wpAnyH_take (i := 32) (oi := { dst := some 111, op := Op.move (Operand.tmp 20), type := 28, pos := "law.go:39", after := #[{ on := 30, ground := Ground.guard }], guard := some (30, true) }) (v := ?_) rfl (by kernel_rfl) (by kernel_rfl) (by kernel_rfl) (fun _ _ _ h => h) (Or.inl ⟨by rfl, ?_⟩) hHeld ?_
    rotate_left
    · intro w hSw
      try dsimp only at hSw
      go_simp
      try with_reducible rfl
    try simp only [Act.put, List.setIfInBounds_toArray, List.set_cons_zero, List.set_cons_succ]
    refine wpAnyH_take (i := 33) (oi := { dst := some 112, op := Op.binOp BinOp.eql 28 (Operand.tmp 110) (Operand.tmp 111) 28, type := 4, pos := "law.go:39", after := #[{ on := 31, ground := Ground.data }, { on := 32, ground := Ground.data }, { on := 30, ground := Ground.guard }], guard := some (30, true) }) (v := ?_) rfl (by kernel_rfl) (by kernel_rfl) (by kernel_rfl) (fun _ _ _ h => h) (Or.inl ⟨by rfl, ?_⟩) hHeld ?_
    rotate_left
    · intro w hSw
      try dsimp only at hSw
      go_simp
      try with_reducible rfl
    try simp only [Act.put, List.setIfInBounds_toArray, List.set_cons_zero, List.set_cons_succ]
    refine wpAnyH_take (i := 34) (oi := { dst := some 113, op := Op.pick (Operand.tmp 109) (Operand.tmp 112) (Operand.const (Value.bool false)), type := 4, pos := "law.go:39", after := #[{ on := 30, ground := Ground.data }, { on := 33, ground := Ground.data }], guard := none }) (v := ?_) rfl (by kernel_rfl) (by kernel_rfl) (by kernel_rfl) (fun _ _ _ h => h) (Or.inl ⟨by rfl, ?_⟩) hHeld ?_
    rotate_left
    · intro w hSw
      try dsimp only at hSw
      go_simp
      try with_reducible rfl
    try simp only [Act.put, List.setIfInBounds_toArray, List.set_cons_zero, List.set_cons_succ]
    refine wpAnyH_take (i := 35) (oi := { dst := some 114, op := Op.move (Operand.tmp 113), type := 4, pos := "law.go:39", after := #[{ on := 34, ground := Ground.data }, { on := 30, ground := Ground.chain }], guard := none }) (v := ?_) rfl (by kernel_rfl) (by kernel_rfl) (by kernel_rfl) (fun _ _ _ h => h) (Or.inl ⟨by rfl, ?_⟩) hHeld ?_
    rotate_left
    · intro w hSw
      try dsimp only at hSw
      go_simp
      try with_reducible rfl
    try simp only [Act.put, List.setIfInBounds_toArray, List.set_cons_zero, List.set_cons_succ]
    refine wpAnyH_take (i := 36) (oi := { dst := some 115, op := Op.load 53 (Operand.tmp 21), type := 53, pos := "law.go:39", after := #[{ on := 35, ground := Ground.guard }], guard := some (35, true) }) (v := ?_) rfl (by kernel_rfl) (by kernel_rfl) (by kernel_rfl) (fun _ _ _ h => h) (Or.inl ⟨by rfl, ?_⟩) hHeld ?_
    rotate_left
    · intro w hSw
      try dsimp only at hSw
      go_simp
      try with_reducible rfl
    try simp only [Act.put, List.setIfInBounds_toArray, List.set_cons_zero, List.set_cons_succ]
    refine wpAnyH_take (i := 37) (oi := { dst := some 116, op := Op.load 53 (Operand.tmp 23), type := 53, pos := "law.go:39", after := #[{ on := 35, ground := Ground.guard }], guard := some (35, true) }) (v := ?_) rfl (by kernel_rfl) (by kernel_rfl) (by kernel_rfl) (fun _ _ _ h => h) (Or.inl ⟨by rfl, ?_⟩) hHeld ?_
    rotate_left
    · intro w hSw
      try dsimp only at hSw
      go_simp
      try with_reducible rfl
    try simp only [Act.put, List.setIfInBounds_toArray, List.set_cons_zero, List.set_cons_succ]
    refine wpAnyH_take (i := 38) (oi := { dst := some 117, op := Op.binOp BinOp.eql 53 (Operand.tmp 115) (Operand.tmp 116) 53, type := 4, pos := "law.go:39", after := #[{ on := 36, ground := Ground.data }, { on := 37, ground := Ground.data }, { on := 35, ground := Ground.guard }], guard := some (35, true) }) (v := ?_) rfl (by kernel_rfl) (by kernel_rfl) (by kernel_rfl) (fun _ _ _ h => h) (Or.inl ⟨by rfl, ?_⟩) hHeld ?_
    rotate_left
    · intro w hSw
      try dsimp only at hSw
      go_simp
      try with_reducible rfl
    try simp only [Act.put, List.setIfInBounds_toArray, List.set_cons_zero, List.set_cons_succ]
    refine wpAnyH_take (i := 39) (oi := { dst := some 118, op := Op.pick (Operand.tmp 114) (Operand.tmp 117) (Operand.const (Value.bool false)), type := 4, pos := "law.go:39", after := #[{ on := 35, ground := Ground.data }, { on := 38, ground := Ground.data }], guard := none }) (v := ?_) rfl (by kernel_rfl) (by kernel_rfl) (by kernel_rfl) (fun _ _ _ h => h) (Or.inl ⟨by rfl, ?_⟩) hHeld ?_
    rotate_left
    · intro w hSw
      try dsimp only at hSw
      go_simp
      try with_reducible rfl
    try simp only [Act.put, List.setIfInBounds_toArray, List.set_cons_zero, List.set_cons_succ]
    refine wpAnyH_take (i := 40) (oi := { dst := some 119, op := Op.move (Operand.tmp 118), type := 4, pos := "law.go:39", after := #[{ on := 39, ground := Ground.data }, { on := 35, ground := Ground.chain }], guard := none }) (v := ?_) rfl (by kernel_rfl) (by kernel_rfl) (by kernel_rfl) (fun _ _ _ h => h) (Or.inl ⟨by rfl, ?_⟩) hHeld ?_
    rotate_left
    · intro w hSw
      try dsimp only at hSw
      go_simp
      try with_reducible rfl
    try simp only [Act.put, List.setIfInBounds_toArray, List.set_cons_zero, List.set_cons_succ]
    refine wpAnyH_take (i := 41) (oi := { dst := some 120, op := Op.move (Operand.tmp 22), type := 28, pos := "law.go:39", after := #[{ on := 40, ground := Ground.guard }], guard := some (40, true) }) (v := ?_) rfl (by kernel_rfl) (by kernel_rfl) (by kernel_rfl) (fun _ _ _ h => h) (Or.inl ⟨by rfl, ?_⟩) hHeld ?_
    rotate_left
    · intro w hSw
      try dsimp only at hSw
      go_simp
      try with_reducible rfl
    try simp only [Act.put, List.setIfInBounds_toArray, List.set_cons_zero, List.set_cons_succ]
    refine wpAnyH_take (i := 42) (oi := { dst := some 121, op := Op.move (Operand.tmp 24), type := 28, pos := "law.go:39", after := #[{ on := 40, ground := Ground.guard }], guard := some (40, true) }) (v := ?_) rfl (by kernel_rfl) (by kernel_rfl) (by kernel_rfl) (fun _ _ _ h => h) (Or.inl ⟨by rfl, ?_⟩) hHeld ?_
    rotate_left
    · intro w hSw
      try dsimp only at hSw
      go_simp
      try with_reducible rfl
    try simp only [Act.put, List.setIfInBounds_toArray, List.set_cons_zero, List.set_cons_succ]
    refine wpAnyH_take (i := 43) (oi := { dst := some 122, op := Op.binOp BinOp.eql 28 (Operand.tmp 120) (Operand.tmp 121) 28, type := 4, pos := "law.go:39", after := #[{ on := 41, ground := Ground.data }, { on := 42, ground := Ground.data }, { on := 40, ground := Ground.guard }], guard := some (40, true) }) (v := ?_) rfl (by kernel_rfl) (by kernel_rfl) (by kernel_rfl) (fun _ _ _ h => h) (Or.inl ⟨by rfl, ?_⟩) hHeld ?_
    rotate_left
    · intro w hSw
      try dsimp only at hSw
      go_simp
      try with_reducible rfl
    try simp only [Act.put, List.setIfInBounds_toArray, List.set_cons_zero, List.set_cons_succ]
    refine wpAnyH_take (i := 44) (oi := { dst := some 123, op := Op.pick (Operand.tmp 119) (Operand.tmp 122) (Operand.const (Value.bool false)), type := 4, pos := "law.go:39", after := #[{ on := 40, ground := Ground.data }, { on := 43, ground := Ground.data }], guard := none }) (v := ?_) rfl (by kernel_rfl) (by kernel_rfl) (by kernel_rfl) (fun _ _ _ h => h) (Or.inl ⟨by rfl, ?_⟩) hHeld ?_
    rotate_left
    · intro w hSw
      try dsimp only at hSw
      go_simp
      try with_reducible rfl
    try simp only [Act.put, List.setIfInBounds_toArray, List.set_cons_zero, List.set_cons_succ]
    refine wpAnyH_take (i := 45) (oi := { dst := some 124, op := Op.move (Operand.tmp 123), type := 4, pos := "law.go:39", after := #[{ on := 44, ground := Ground.data }, { on := 40, ground := Ground.chain }], guard := none }) (v := ?_) rfl (by kernel_rfl) (by kernel_rfl) (by kernel_rfl) (fun _ _ _ h => h) (Or.inl ⟨by rfl, ?_⟩) hHeld ?_
    rotate_left
    · intro w hSw
      try dsimp only at hSw
      go_simp
      try with_reducible rfl
    try simp only [Act.put, List.setIfInBounds_toArray, List.set_cons_zero, List.set_cons_succ]
    refine wpAnyH_take (i := 46) (oi := { dst := some 125, op := Op.load 53 (Operand.tmp 25), type := 53, pos := "law.go:39", after := #[{ on := 45, ground := Ground.guard }], guard := some (45, true) }) (v := ?_) rfl (by kernel_rfl) (by kernel_rfl) (by kernel_rfl) (fun _ _ _ h => h) (Or.inl ⟨by rfl, ?_⟩) hHeld ?_
    rotate_left
    · intro w hSw
      try dsimp only at hSw
      go_simp
      try with_reducible rfl
    try simp only [Act.put, List.setIfInBounds_toArray, List.set_cons_zero, List.set_cons_succ]
    refine wpAnyH_take (i := 47) (oi := { dst := some 126, op := Op.load 53 (Operand.tmp 27), type := 53, pos := "law.go:39", after := #[{ on := 45, ground := Ground.guard }], guard := some (45, true) }) (v := ?_) rfl (by kernel_rfl) (by kernel_rfl) (by kernel_rfl) (fun _ _ _ h => h) (Or.inl ⟨by rfl, ?_⟩) hHeld ?_
    rotate_left
    · intro w hSw
      try dsimp only at hSw
      go_simp
      try with_reducible rfl
    try simp only [Act.put, List.setIfInBounds_toArray, List.set_cons_zero, List.set_cons_succ]
    refine wpAnyH_take (i := 48) (oi := { dst := some 127, op := Op.binOp BinOp.eql 53 (Operand.tmp 125) (Operand.tmp 126) 53, type := 4, pos := "law.go:39", after := #[{ on := 46, ground := Ground.data }, { on := 47, ground := Ground.data }, { on := 45, ground := Ground.guard }], guard := some (45, true) }) (v := ?_) rfl (by kernel_rfl) (by kernel_rfl) (by kernel_rfl) (fun _ _ _ h => h) (Or.inl ⟨by rfl, ?_⟩) hHeld ?_
    rotate_left
    · intro w hSw
      try dsimp only at hSw
      go_simp
      try with_reducible rfl
    try simp only [Act.put, List.setIfInBounds_toArray, List.set_cons_zero, List.set_cons_succ]
    refine wpAnyH_take (i := 49) (oi := { dst := some 128, op := Op.pick (Operand.tmp 124) (Operand.tmp 127) (Operand.const (Value.bool false)), type := 4, pos := "law.go:39", after := #[{ on := 45, ground := Ground.data }, { on := 48, ground := Ground.data }], guard := none }) (v := ?_) rfl (by kernel_rfl) (by kernel_rfl) (by kernel_rfl) (fun _ _ _ h => h) (Or.inl ⟨by rfl, ?_⟩) hHeld ?_
    rotate_left
    · intro w hSw
      try dsimp only at hSw
      go_simp
      try with_reducible rfl
    try simp only [Act.put, List.setIfInBounds_toArray, List.set_cons_zero, List.set_cons_succ]
    refine wpAnyH_take (i := 50) (oi := { dst := some 129, op := Op.move (Operand.tmp 128), type := 4, pos := "law.go:39", after := #[{ on := 49, ground := Ground.data }, { on := 45, ground := Ground.chain }], guard := none }) (v := ?_) rfl (by kernel_rfl) (by kernel_rfl) (by kernel_rfl) (fun _ _ _ h => h) (Or.inl ⟨by rfl, ?_⟩) hHeld ?_
    rotate_left
    · intro w hSw
      try dsimp only at hSw
      go_simp
      try with_reducible rfl
    try simp only [Act.put, List.setIfInBounds_toArray, List.set_cons_zero, List.set_cons_succ]
    refine wpAnyH_take (i := 51) (oi := { dst := some 130, op := Op.move (Operand.tmp 26), type := 28, pos := "law.go:39", after := #[{ on := 50, ground := Ground.guard }], guard := some (50, true) }) (v := ?_) rfl (by kernel_rfl) (by kernel_rfl) (by kernel_rfl) (fun _ _ _ h => h) (Or.inl ⟨by rfl, ?_⟩) hHeld ?_
    rotate_left
    · intro w hSw
      try dsimp only at hSw
      go_simp
      try with_reducible rfl
    try simp only [Act.put, List.setIfInBounds_toArray, List.set_cons_zero, List.set_cons_succ]
    refine wpAnyH_take (i := 52) (oi := { dst := some 131, op := Op.move (Operand.tmp 28), type := 28, pos := "law.go:39", after := #[{ on := 50, ground := Ground.guard }], guard := some (50, true) }) (v := ?_) rfl (by kernel_rfl) (by kernel_rfl) (by kernel_rfl) (fun _ _ _ h => h) (Or.inl ⟨by rfl, ?_⟩) hHeld ?_
    rotate_left
    · intro w hSw
      try dsimp only at hSw
      go_simp
      try with_reducible rfl
    try simp only [Act.put, List.setIfInBounds_toArray, List.set_cons_zero, List.set_cons_succ]
    refine wpAnyH_take (i := 53) (oi := { dst := some 132, op := Op.binOp BinOp.eql 28 (Operand.tmp 130) (Operand.tmp 131) 28, type := 4, pos := "law.go:39", after := #[{ on := 51, ground := Ground.data }, { on := 52, ground := Ground.data }, { on := 50, ground := Ground.guard }], guard := some (50, true) }) (v := ?_) rfl (by kernel_rfl) (by kernel_rfl) (by kernel_rfl) (fun _ _ _ h => h) (Or.inl ⟨by rfl, ?_⟩) hHeld ?_
    rotate_left
    · intro w hSw
      try dsimp only at hSw
      go_simp
      try with_reducible rfl
    try simp only [Act.put, List.setIfInBounds_toArray, List.set_cons_zero, List.set_cons_succ]
    refine wpAnyH_take (i := 54) (oi := { dst := some 133, op := Op.pick (Operand.tmp 129) (Operand.tmp 132) (Operand.const (Value.bool false)), type := 4, pos := "law.go:39", after := #[{ on := 50, ground := Ground.data }, { on := 53, ground := Ground.data }], guard := none }) (v := ?_) rfl (by kernel_rfl) (by kernel_rfl) (by kernel_rfl) (fun _ _ _ h => h) (Or.inl ⟨by rfl, ?_⟩) hHeld ?_
    rotate_left
    · intro w hSw
      try dsimp only at hSw
      go_simp
      try with_reducible rfl
    try simp only [Act.put, List.setIfInBounds_toArray, List.set_cons_zero, List.set_cons_succ]
    refine wpAnyH_take (i := 55) (oi := { dst := some 12, op := Op.assign (Operand.tmp 133), type := 4, pos := "law.go:39", after := #[{ on := 54, ground := Ground.data }, { on := 50, ground := Ground.chain }, { on := 0, ground := Ground.phase }, { on := 1, ground := Ground.phase }, { on := 2, ground := Ground.phase }, { on := 3, ground := Ground.phase }, { on := 4, ground := Ground.phase }, { on := 5, ground := Ground.phase }, { on := 6, ground := Ground.phase }, { on := 7, ground := Ground.phase }, { on := 8, ground := Ground.phase }, { on := 9, ground := Ground.phase }, { on := 10, ground := Ground.phase }, { on := 11, ground := Ground.phase }, { on := 12, ground := Ground.phase }, { on := 13, ground := Ground.phase }, { on := 14, ground := Ground.phase }, { on := 15, ground := Ground.phase }, { on := 16, ground := Ground.phase }, { on := 17, ground := Ground.phase }, { on := 18, ground := Ground.phase }, { on := 19, ground := Ground.phase }, { on := 20, ground := Ground.phase }, { on := 21, ground := Ground.phase }, { on := 22, ground := Ground.phase }, { on := 23, ground := Ground.phase }, { on := 24, ground := Ground.phase }, { on := 25, ground := Ground.phase }, { on := 26, ground := Ground.phase }, { on := 27, ground := Ground.phase }, { on := 28, ground := Ground.phase }, { on := 29, ground := Ground.phase }, { on := 30, ground := Ground.phase }, { on := 31, ground := Ground.phase }, { on := 32, ground := Ground.phase }, { on := 33, ground := Ground.phase }, { on := 34, ground := Ground.phase }, { on := 35, ground := Ground.phase }, { on := 36, ground := Ground.phase }, { on := 37, ground := Ground.phase }, { on := 38, ground := Ground.phase }, { on := 39, ground := Ground.phase }, { on := 40, ground := Ground.phase }, { on := 41, ground := Ground.phase }, { on := 42, ground := Ground.phase }, { on := 43, ground := Ground.phase }, { on := 44, ground := Ground.phase }, { on := 45, ground := Ground.phase }, { on := 46, ground := Ground.phase }, { on := 47, ground := Ground.phase }, { on := 48, ground := Ground.phase }, { on := 49, ground := Ground.phase }, { on := 50, ground := Ground.phase }, { on := 51, ground := Ground.phase }, { on := 52, ground := Ground.phase }, { on := 53, ground := Ground.phase }, { on := 54, ground := Ground.phase }], guard := none }) (v := ?_) rfl (by kernel_rfl) (by kernel_rfl) (by kernel_rfl) (fun _ _ _ h => h) (Or.inl ⟨by rfl, ?_⟩) hHeld ?_
    rotate_left
    · intro w hSw
      try dsimp only at hSw
      go_simp
      try with_reducible rfl
    try simp only [Act.put, List.setIfInBounds_toArray, List.set_cons_zero, List.set_cons_succ]
    refine wpAnyH_done (by kernel_rfl) ?_ _
    have hbel := hHeld.1.2; clear hHeld ZZ
    go_wp2_with fail
    go_ret
    exact ⟨rfl, hbel⟩
theorem ov_rc (s : ByteArray) : ∃ (b c d : Int) (p q : St), oV s = .agg (rcA b c d p q) := by
  unfold oV; split
  · exact ⟨_, _, _, _, _, rfl⟩
  · exact ⟨0, 0, 0, St.nil, St.nil, rfl⟩
theorem mk_rc (x y : Int) (sx sy : St) : ∃ (b c d : Int) (p q : St), mkV x y sx sy = .agg (rcA b c d p q) := by
  unfold mkV; split
  · exact ⟨_, _, _, _, _, rfl⟩
  · exact ⟨0, 0, 0, St.nil, St.nil, rfl⟩
theorem pl_rc (x : Int) : ∃ (b c d : Int) (p q : St), plV x = .agg (rcA b c d p q) := by
  unfold plV; split
  · exact ⟨_, _, _, _, _, rfl⟩
  · exact ⟨0, 0, 0, St.nil, St.nil, rfl⟩
theorem tells_any (b c d : Int) (p q : St) (s : ByteArray) (x y : Int) (sx sy : St) (w : World) (hT : Tab w) (B : RBd b c d p q) (Bx : sx.Bd) (By : sy.Bd)
    (hx : -9223372036854775808 ≤ x ∧ x ≤ 9223372036854775807) (hy : -9223372036854775808 ≤ y ∧ y ≤ 9223372036854775807) :
    Calls Tryd.prog 7 #[rcV b c d p q, .string s, .int .i64 x, .int .i64 y, .agg (sA sx), .agg (sA sy)] w fun e w' => e = .returned (.bool true) ∧ Below w.heap.size w w' := by
  have hf1 := fun w hT => of_any s w hT
  have hf2 := fun w hT => rof_any s w hT
  obtain ⟨gb, gc, gd, gp, gq, e1⟩ := ov_rc s
  rw [e1] at hf1 hf2
  have hm1 := fun w hT => make_any x y sx sy w hT Bx By hx hy
  have hm2 := fun w hT => rmake_any x y sx sy w hT Bx By hx hy
  obtain ⟨mb, mc, md, mp, mq, e2⟩ := mk_rc x y sx sy
  rw [e2] at hm1 hm2
  have hp1 := fun w (_ : Tab w) => plain_any x w
  have hp2 := fun w hT => rplain_any x w hT hx
  obtain ⟨pb, pc, pd, pp, pq, e3⟩ := pl_rc x
  rw [e3] at hp1 hp2
  exact tells_main b c d x y _ _ _ _ _ _ gb gc gd mb mc md pb pc pd p q sx sy gp gq mp mq pp pq s _ w hT
    (fun w _ => offs_any b c d p q w B) (fun w _ => roffs_any b c d p q w B) hf1 hf2 hm1 hm2 hp1 hp2
    (fun w hT => chk_any b c d p q w hT B) (fun w hT => rrc_any b c d p q w hT B) (fun w _ => bytes_any b c d p q w B) (fun w _ => rbytes_rc b c d p q w B)
end Go.Proofs.YtcjjgfejamddjaaDoor.Rf
