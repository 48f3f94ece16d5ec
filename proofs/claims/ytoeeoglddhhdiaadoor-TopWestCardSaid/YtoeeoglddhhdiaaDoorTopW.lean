/-
  YEARS: TopWest walked (under way).
-/
import Derived.Test.YtoeeoglddhhdiaaDoorYrS
import Derived.Test.YtoeeoglddhhdiaaDoorTopWK
namespace Go.Proofs.YtoeeoglddhhdiaaDoor.Yr
open Go.ChangeShapes Go.WideShapes Go.ChangeAt Go.RowKit
open Go.Proofs.YtoeeoglddhhdiaaDoor
open Go.Proofs.YtoeeoglddhhdiaaDoor.Wd
open Go.Proofs.YtoeeoglddhhdiaaDoor.Rec
open Go.Proofs.YtoeeoglddhhdiaaDoor.Civ (Tab Inv)
set_option linter.unusedVariables false
theorem hw2 {z y : Int} (h : wrap32 z = y) : -2147483648 ≤ y ∧ y ≤ 2147483647 := by subst h; unfold wrap32; omega
set_option maxRecDepth 20000 in
set_option maxHeartbeats 1600000 in
theorem late_any {x z L : Int} {g : Nat} {w : World} (h : Later x z L) (hL : -4194304 ≤ L ∧ L ≤ 4194304) (hb : Blk w g 2 #[.int .i64 L]) :
    Calls Tryd.prog 42 #[.int .i64 x, .int .i64 z, .pointer (some ⟨g, 0, none⟩)] w fun e w' => e = .returned (.bool true) ∧ w' = w := by
  have c0 := hb.cell 0
  simp at c0
  rcases h with ⟨rfl, h1, h2⟩ | ⟨rfl, rfl⟩
  · have hx : (x == 4611686018427387904) = false := by rw [beq_eq_false_iff_ne]; omega
    go_enter Tryd.func42, Tryd.ntmps42
    go_wp2
    go_ret
    exact ⟨rfl, rfl⟩
  · go_enter Tryd.func42, Tryd.ntmps42
    go_wp2
    go_ret
    exact ⟨rfl, rfl⟩
theorem chk_at {b c d : Int} {p q : St} {w : World} (hT : Tab w) (B : RBd b c d p q) (h : rcOk b c d p q = true) :
    Calls Tryd.prog 41 #[rcV b c d p q] w fun e w' => e = .returned (.int .i64 0) ∧ Below w.heap.size w w' := by
  have := chk_any b c d p q w hT B
  rwa [show rcE b c d p q = 0 by unfold rcE; rw [if_pos h]] at this
theorem chk_no {b c d : Int} {p q : St} {w : World} (hT : Tab w) (B : RBd b c d p q) (h : rcOk b c d p q = false) :
    Calls Tryd.prog 41 #[rcV b c d p q] w fun e w' => e = .returned (.int .i64 2) ∧ Below w.heap.size w w' := by
  have := chk_any b c d p q w hT B
  rwa [show rcE b c d p q = 2 by unfold rcE; rw [h]; rfl] at this
set_option maxRecDepth 100000 in
set_option maxHeartbeats 8000000 in
theorem west_any (b c d : Int) (p q : St) (Y m t : Int) (w : World) (hT : Tab w) (B : RBd b c d p q) (hm : -32768 ≤ m ∧ m ≤ 32767) :
    Calls Tryd.prog 11 #[rcV b c d p q, .int .i64 Y, .int .i16 m, .int .i64 t] w fun e w' => e = .returned (.bool true) ∧ Below w.heap.size w w' := by
  have i0 := Civ.Inv.start hT
  go_enter Tryd.func11, Tryd.ntmps11
  go_wp2_with fail
  have r_1 := (Wd.Blk.new w 44 (rcA b c d p q))
  have inv_1 := (i0.alloc (.cells (rcA b c d p q) 44))
  refine (begins11_any _ inv_1.1).mono ?_; rintro e w_1 ⟨rfl, hb_1⟩
  have rc_1 := r_1.below hb_1 r_1.lt
  have invc_1 := inv_1.call hb_1
  clear r_1 inv_1 hb_1
  have r_2 := (rc_1.alloc (.cells (rcA b c d p q) 44))
  have o_2 := (Wd.Blk.new w_1 44 (rcA b c d p q))
  have inv_2 := (invc_1.alloc (.cells (rcA b c d p q) 44))
  have c0 := o_2.cell 0; have f0 := o_2.frozen 0; simp at c0
  go_upto_region 5 with (first | refine wpList_store_new rfl 44 _ _ rfl rfl w_1.heap.size (rcA b c d p q) rfl rfl _ z19 w_1 rfl rfl rfl (by kernel_rfl) (by kernel_rfl) ?_ | refine wpList_row_g rfl 44 _ rfl _ rfl _ _ _ _ rc_1 Tryd.underlying44 rfl (by kernel_rfl) ?_)
  clear c0 f0
  generalize hwb : wrap32 (b + m) = b2 at *
  have r_3 := (rc_1.alloc (.cells (rcA b2 c d p q) 44))
  have o_3 := (Wd.Blk.new w_1 44 (rcA b2 c d p q))
  have inv_3 := (invc_1.alloc (.cells (rcA b2 c d p q) 44))
  have B2 : RBd b2 c d p q := ⟨hw2 hwb, B.c, B.d, B.p, B.q⟩
  cases hR : rcOk b c d p q
  · skip
    go_wp2_with (refine wpList_row_g rfl 44 _ rfl _ rfl _ _ _ _ r_3 Tryd.underlying44 rfl (by kernel_rfl) ?_)
    have r_4 := r_3
    have o_4 := o_3
    have inv_4 := inv_3
    refine (chk_no inv_4.1 B hR).mono ?_; rintro e w_4 ⟨rfl, hb_4⟩
    have rc_4 := r_4.below hb_4 r_4.lt
    have oc_4 := o_4.below hb_4 o_4.lt
    have invc_4 := inv_4.call hb_4
    clear r_4 o_4 inv_4 hb_4
    go_wp2_with fail
    go_ret
    exact ⟨rfl, invc_4.2⟩
  · skip
    go_wp2_with (refine wpList_row_g rfl 44 _ rfl _ rfl _ _ _ _ r_3 Tryd.underlying44 rfl (by kernel_rfl) ?_)
    have r_4 := r_3
    have o_4 := o_3
    have inv_4 := inv_3
    refine (chk_at inv_4.1 B hR).mono ?_; rintro e w_4 ⟨rfl, hb_4⟩
    have rc_4 := r_4.below hb_4 r_4.lt
    have oc_4 := o_4.below hb_4 o_4.lt
    have invc_4 := inv_4.call hb_4
    clear r_4 o_4 inv_4 hb_4
    cases hO : rcOk b2 c d p q
    · skip
      go_wp2_with (refine wpList_row_g rfl 44 _ rfl _ rfl _ _ _ _ oc_4 Tryd.underlying44 rfl (by kernel_rfl) ?_)
      have r_5 := rc_4
      have o_5 := oc_4
      have inv_5 := invc_4
      refine (chk_no inv_5.1 B2 hO).mono ?_; rintro e w_5 ⟨rfl, hb_5⟩
      have rc_5 := r_5.below hb_5 r_5.lt
      have oc_5 := o_5.below hb_5 o_5.lt
      have invc_5 := inv_5.call hb_5
      clear r_5 o_5 inv_5 hb_5
      go_wp2_with fail
      go_ret
      exact ⟨rfl, invc_5.2⟩
    · skip
      go_wp2_with (refine wpList_row_g rfl 44 _ rfl _ rfl _ _ _ _ oc_4 Tryd.underlying44 rfl (by kernel_rfl) ?_)
      have r_5 := rc_4
      have o_5 := oc_4
      have inv_5 := invc_4
      refine (chk_at inv_5.1 B2 hO).mono ?_; rintro e w_5 ⟨rfl, hb_5⟩
      have rc_5 := r_5.below hb_5 r_5.lt
      have oc_5 := o_5.below hb_5 o_5.lt
      have invc_5 := inv_5.call hb_5
      clear r_5 o_5 inv_5 hb_5
      have hYt : Y < 1601 ∨ (1601 ≤ Y ∧ 9999 < Y) ∨ (1601 ≤ Y ∧ Y ≤ 9999 ∧ t < -35184372088832) ∨ (1601 ≤ Y ∧ Y ≤ 9999 ∧ -35184372088832 ≤ t ∧ 35184372088832 < t) ∨ (1601 ≤ Y ∧ Y ≤ 9999 ∧ -35184372088832 ≤ t ∧ t ≤ 35184372088832) := by omega
      rcases hYt with h1 | ⟨h1, h2⟩ | ⟨h1, h2, h3⟩ | ⟨h1, h2, h3, h4⟩ | ⟨h1, h2, h3, h4⟩
      · go_wp2_with fail
        go_ret
        exact ⟨rfl, invc_5.2⟩
      · go_wp2_with fail
        go_ret
        exact ⟨rfl, invc_5.2⟩
      · go_wp2_with fail
        go_ret
        exact ⟨rfl, invc_5.2⟩
      · go_wp2_with fail
        go_ret
        exact ⟨rfl, invc_5.2⟩
      · obtain ⟨s1, s2, z1, z2, o1, k, hT1, hT2, hA1, hA2, l1, l2, ho⟩ := west_pack B B2 hwb hm hR hO ⟨h1, h2⟩ ⟨h3, h4⟩
        have hL : -4194304 ≤ 60 * m ∧ 60 * m ≤ 4194304 := by omega
        clear hwb hR hO B B2
        have r_6 := (rc_5.alloc (.cells #[.int .i64 (60 * m)] 2))
        have o_6 := (oc_5.alloc (.cells #[.int .i64 (60 * m)] 2))
        have l_6 := (Wd.Blk.new w_5 2 #[.int .i64 (60 * m)])
        have inv_6 := (invc_5.alloc (.cells #[.int .i64 (60 * m)] 2))
        go_wp2_with (refine wpList_row_g rfl 44 _ rfl _ rfl _ _ _ _ r_6 Tryd.underlying44 rfl (by kernel_rfl) ?_)
        have r_7 := r_6
        have o_7 := o_6
        have l_7 := l_6
        have inv_7 := inv_6
        refine (hT1 _ inv_7.1).mono ?_; rintro e w_7 ⟨rfl, hb_7⟩
        have rc_7 := r_7.below hb_7 r_7.lt
        have oc_7 := o_7.below hb_7 o_7.lt
        have lc_7 := l_7.below hb_7 l_7.lt
        have invc_7 := inv_7.call hb_7
        clear r_7 o_7 l_7 inv_7 hb_7
        go_wp2_with (refine wpList_row_g rfl 44 _ rfl _ rfl _ _ _ _ oc_7 Tryd.underlying44 rfl (by kernel_rfl) ?_)
        have r_8 := rc_7
        have o_8 := oc_7
        have l_8 := lc_7
        have inv_8 := invc_7
        refine (hT2 _ inv_8.1).mono ?_; rintro e w_8 ⟨rfl, hb_8⟩
        have rc_8 := r_8.below hb_8 r_8.lt
        have oc_8 := o_8.below hb_8 o_8.lt
        have lc_8 := l_8.below hb_8 l_8.lt
        have invc_8 := inv_8.call hb_8
        clear r_8 o_8 l_8 inv_8 hb_8
        go_wp2_with (refine wpList_row_g rfl 44 _ rfl _ rfl _ _ _ _ rc_8 Tryd.underlying44 rfl (by kernel_rfl) ?_)
        have r_9 := rc_8
        have o_9 := oc_8
        have l_9 := lc_8
        have inv_9 := invc_8
        refine (hA1 _ inv_9.1).mono ?_; rintro e w_9 ⟨rfl, hb_9⟩
        have rc_9 := r_9.below hb_9 r_9.lt
        have oc_9 := o_9.below hb_9 o_9.lt
        have lc_9 := l_9.below hb_9 l_9.lt
        have invc_9 := inv_9.call hb_9
        clear r_9 o_9 l_9 inv_9 hb_9
        have r_10 := (rc_9.alloc (.cells (stA0 o1 k) 28))
        have o_10 := (oc_9.alloc (.cells (stA0 o1 k) 28))
        have l_10 := (lc_9.alloc (.cells (stA0 o1 k) 28))
        have x_10 := (Wd.Blk.new w_9 28 (stA0 o1 k))
        have inv_10 := (invc_9.alloc (.cells (stA0 o1 k) 28))
        have d0 := l_10.cell 0; simp at d0
        go_wp2_with (first | refine wpList_store_new rfl 28 _ _ rfl rfl w_9.heap.size (stA0 o1 k) rfl rfl _ (stA0 0 false) w_9 rfl rfl rfl (by kernel_rfl) (by kernel_rfl) ?_ | refine wpList_row_g rfl 44 _ rfl _ rfl _ _ _ _ o_10 Tryd.underlying44 rfl (by kernel_rfl) ?_)
        clear d0
        have r_11 := r_10
        have o_11 := o_10
        have l_11 := l_10
        have x_11 := x_10
        have inv_11 := inv_10
        refine (hA2 _ inv_11.1).mono ?_; rintro e w_11 ⟨rfl, hb_11⟩
        have rc_11 := r_11.below hb_11 r_11.lt
        have oc_11 := o_11.below hb_11 o_11.lt
        have lc_11 := l_11.below hb_11 l_11.lt
        have xc_11 := x_11.below hb_11 x_11.lt
        have invc_11 := inv_11.call hb_11
        clear r_11 o_11 l_11 x_11 inv_11 hb_11
        have l_12 := (lc_11.alloc (.cells (stA0 (o1 - 60 * m) k) 28))
        have x_12 := (xc_11.alloc (.cells (stA0 (o1 - 60 * m) k) 28))
        have y_12 := (Wd.Blk.new w_11 28 (stA0 (o1 - 60 * m) k))
        have inv_12 := (invc_11.alloc (.cells (stA0 (o1 - 60 * m) k) 28))
        have d0 := l_12.cell 0; simp at d0
        have x0 := x_12.cell 0; have x1 := x_12.cell 1; simp at x0 x1
        have y0 := y_12.cell 0; have y1 := y_12.cell 1; simp at y0 y1
        clear hT1 hT2 hA1 hA2 h1 h2 h3 h4
        go_wp2_with (first | refine wpList_store_new rfl 28 _ _ rfl rfl w_11.heap.size (stA0 (o1 - 60 * m) k) rfl rfl _ (stA0 0 false) w_11 rfl rfl rfl (by kernel_rfl) (by kernel_rfl) ?_)
        refine (late_any l1 hL l_12).mono ?_; rintro e wa ⟨rfl, rfl⟩
        go_wp2_with fail
        refine (late_any l2 hL l_12).mono ?_; rintro e wa ⟨rfl, rfl⟩
        go_wp2_with fail
        go_ret
        exact ⟨rfl, inv_12.2⟩
end Go.Proofs.YtoeeoglddhhdiaaDoor.Yr
