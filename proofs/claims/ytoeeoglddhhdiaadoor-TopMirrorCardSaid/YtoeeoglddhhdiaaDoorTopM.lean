/-
  YEARS: TopMirror walked.
-/
import Derived.Test.YtoeeoglddhhdiaaDoorYrS
namespace Go.Proofs.YtoeeoglddhhdiaaDoor.Yr
open Go.ChangeShapes Go.WideShapes Go.ChangeAt Go.RowKit
open Go.Proofs.YtoeeoglddhhdiaaDoor
open Go.Proofs.YtoeeoglddhhdiaaDoor.Wd
open Go.Proofs.YtoeeoglddhhdiaaDoor.Rec
open Go.Proofs.YtoeeoglddhhdiaaDoor.Civ (Tab Inv)
set_option linter.unusedVariables false
theorem rbd_turn {b c d : Int} {p q : St} (B : RBd b c d p q) : RBd b d c q p := ⟨B.b, B.d, B.c, B.q, B.p⟩
theorem rcOk_turn (b c d : Int) (p q : St) : rcOk b d c q p = rcOk b c d p q := by
  unfold rcOk
  cases p.zero <;> cases q.zero <;> cases (p.chk == 0) <;> cases (q.chk == 0) <;> simp <;> exact Bool.and_comm _ _
theorem trE_turn (b c d : Int) (p q : St) (Y : Int) : trE b d c q p Y = trE b c d p q Y := by unfold trE; rw [rcOk_turn]
theorem trA_turn (b c d : Int) (p q : St) (Y : Int) : trA b d c q p Y = trB b c d p q Y := by unfold trA trB; rw [trE_turn]
theorem trB_turn (b c d : Int) (p q : St) (Y : Int) : trB b d c q p Y = trA b c d p q Y := by unfold trA trB; rw [trE_turn]
theorem sum_turn {x y t : Int} (h : x ≠ y) : sumB y x t = !sumB x y t := by
  unfold sumB
  by_cases h1 : x < y
  · have h2 : ¬ y < x := by omega
    by_cases h3 : x ≤ t <;> by_cases h4 : t < y <;> simp [h1, h2, h3, h4] <;> omega
  · have h2 : y < x := by omega
    by_cases h3 : y ≤ t <;> by_cases h4 : t < x <;> simp [h1, h2, h3, h4] <;> omega
theorem sum_same (x t : Int) : sumB x x t = false := by unfold sumB; simp
theorem mir_pack {b c d : Int} {p q : St} (B : RBd b c d p q) (Y t : Int) : ∃ (s1 s2 o1 o2 E : Int) (b1 b2 : Bool),
    (∀ w, Tab w → Calls Tryd.prog 40 #[rcV b c d p q, .int .i64 Y] w fun e w' => e = .returned (.tuple #[.int .i64 s1, .int .i64 s2, .int .i64 E]) ∧ Below w.heap.size w w') ∧
    (∀ w, Tab w → Calls Tryd.prog 40 #[rcV b d c q p, .int .i64 Y] w fun e w' => e = .returned (.tuple #[.int .i64 s2, .int .i64 s1, .int .i64 E]) ∧ Below w.heap.size w w') ∧
    (∀ w, Tab w → Calls Tryd.prog 24 #[rcV b c d p q, .int .i64 Y, .int .i64 t] w fun e w' => e = .returned (.tuple #[stateV o1 b1, .int .i64 E]) ∧ Below w.heap.size w w') ∧
    (∀ w, Tab w → Calls Tryd.prog 24 #[rcV b d c q p, .int .i64 Y, .int .i64 t] w fun e w' => e = .returned (.tuple #[stateV o2 b2, .int .i64 E]) ∧ Below w.heap.size w w') ∧
    ((E = 0 ∧ s1 = s2 ∧ b1 = false ∧ b2 = false) ∨ (E = 0 ∧ s1 ≠ s2 ∧ o1 = o2 ∧ b2 = !b1) ∨ (E ≠ 0 ∧ s1 = 0 ∧ s2 = 0)) := by
  refine ⟨trA b c d p q Y, trB b c d p q Y, atO b c d p q Y t, atO b d c q p Y t, trE b c d p q Y, atB b c d p q Y t, atB b d c q p Y t, fun w hT => Turns_any _ _ _ _ _ _ _ hT B, fun w hT => ?_, fun w hT => At_any _ _ _ _ _ _ _ _ hT B, fun w hT => ?_, ?_⟩
  · have := Turns_any b d c q p Y w hT (rbd_turn B)
    rwa [trA_turn b c d p q Y, trB_turn b c d p q Y, trE_turn b c d p q Y] at this
  · have := At_any b d c q p Y t w hT (rbd_turn B)
    rwa [trE_turn b c d p q Y] at this
  · by_cases hE : trE b c d p q Y = 0
    · by_cases hs : trA b c d p q Y = trB b c d p q Y
      · refine Or.inl ⟨hE, hs, ?_, ?_⟩
        · unfold atB; rw [if_pos hE, hs]; exact sum_same _ _
        · unfold atB; rw [trE_turn b c d p q Y, if_pos hE, trA_turn b c d p q Y, trB_turn b c d p q Y, hs]; exact sum_same _ _
      · have h2 := sum_turn (t := t) hs
        refine Or.inr (Or.inl ⟨hE, hs, ?_, ?_⟩)
        · unfold atO; rw [trE_turn b c d p q Y, if_pos hE, if_pos hE, trA_turn b c d p q Y, trB_turn b c d p q Y]
          unfold stO; rw [h2]
          cases sumB (trA b c d p q Y) (trB b c d p q Y) t <;> rfl
        · unfold atB; rw [trE_turn b c d p q Y, if_pos hE, if_pos hE, trA_turn b c d p q Y, trB_turn b c d p q Y]; exact h2
    · refine Or.inr (Or.inr ⟨hE, ?_, ?_⟩)
      · unfold trA; rw [if_neg hE]
      · unfold trB; rw [if_neg hE]
set_option maxRecDepth 100000 in
set_option maxHeartbeats 8000000 in
theorem mirror_any (b c d : Int) (p q : St) (Y t : Int) (w : World) (hT : Tab w) (B : RBd b c d p q) :
    Calls Tryd.prog 10 #[rcV b c d p q, .int .i64 Y, .int .i64 t] w fun e w' => e = .returned (.bool true) ∧ Below w.heap.size w w' := by
  have i0 := Civ.Inv.start hT
  obtain ⟨s1, s2, o1, o2, E, b1, b2, hT1, hT2, hA1, hA2, hf⟩ := mir_pack B Y t
  have hEE : (E != E) = false := by simp
  have h11 : (s1 != s1) = false := by simp
  have h22 : (s2 != s2) = false := by simp
  rcases hf with ⟨hE, hs, h1, h2⟩ | ⟨hE, hs, ho, h2⟩ | ⟨hE, hs1, hs2⟩
  · subst hE hs h1 h2
    go_enter Tryd.func10, Tryd.ntmps10
    go_wp2_with fail
    have r_1 := (Wd.Blk.new w 44 (rcA b c d p q))
    have inv_1 := (i0.alloc (.cells (rcA b c d p q) 44))
    refine (begins11_any _ inv_1.1).mono ?_; rintro e w_1 ⟨rfl, hb_1⟩
    have rc_1 := r_1.below hb_1 r_1.lt
    have invc_1 := inv_1.call hb_1
    clear r_1 inv_1 hb_1
    have c0 := rc_1.cell 0; have c1 := rc_1.cell 1; have c2 := rc_1.cell 2; simp at c0 c1 c2
    have r_2 := (rc_1.alloc (.cells (rcA b d c q p) 44))
    have o_2 := (Wd.Blk.new w_1 44 (rcA b d c q p))
    have inv_2 := (invc_1.alloc (.cells (rcA b d c q p) 44))
    go_wp2_with (first | refine wpList_store_new rfl 44 _ _ rfl rfl w_1.heap.size (rcA b d c q p) rfl rfl _ z19 w_1 rfl rfl rfl (by kernel_rfl) (by kernel_rfl) ?_ | refine wpList_seg_g rfl 42 _ rfl _ 3 (sA p) rfl _ _ _ _ rc_1 Tryd.underlying42 rfl (by kernel_rfl) (by kernel_rfl) ?_ | refine wpList_seg_g rfl 42 _ rfl _ 11 (sA q) rfl _ _ _ _ rc_1 Tryd.underlying42 rfl (by kernel_rfl) (by kernel_rfl) ?_ | refine wpList_row_g rfl 44 _ rfl _ rfl _ _ _ _ r_2 Tryd.underlying44 rfl (by kernel_rfl) ?_)
    clear c0 c1 c2
    have r_3 := r_2
    have o_3 := o_2
    have inv_3 := inv_2
    refine (hT1 _ inv_3.1).mono ?_; rintro e w_3 ⟨rfl, hb_3⟩
    have rc_3 := r_3.below hb_3 r_3.lt
    have oc_3 := o_3.below hb_3 o_3.lt
    have invc_3 := inv_3.call hb_3
    clear r_3 o_3 inv_3 hb_3
    go_wp2_with (refine wpList_row_g rfl 44 _ rfl _ rfl _ _ _ _ oc_3 Tryd.underlying44 rfl (by kernel_rfl) ?_)
    have r_4 := rc_3
    have o_4 := oc_3
    have inv_4 := invc_3
    refine (hT2 _ inv_4.1).mono ?_; rintro e w_4 ⟨rfl, hb_4⟩
    have rc_4 := r_4.below hb_4 r_4.lt
    have oc_4 := o_4.below hb_4 o_4.lt
    have invc_4 := inv_4.call hb_4
    clear r_4 o_4 inv_4 hb_4
    go_wp2_with (refine wpList_row_g rfl 44 _ rfl _ rfl _ _ _ _ rc_4 Tryd.underlying44 rfl (by kernel_rfl) ?_)
    have r_5 := rc_4
    have o_5 := oc_4
    have inv_5 := invc_4
    refine (hA1 _ inv_5.1).mono ?_; rintro e w_5 ⟨rfl, hb_5⟩
    have rc_5 := r_5.below hb_5 r_5.lt
    have oc_5 := o_5.below hb_5 o_5.lt
    have invc_5 := inv_5.call hb_5
    clear r_5 o_5 inv_5 hb_5
    have r_6 := (rc_5.alloc (.cells (stA0 o1 false) 28))
    have o_6 := (oc_5.alloc (.cells (stA0 o1 false) 28))
    have x_6 := (Wd.Blk.new w_5 28 (stA0 o1 false))
    have inv_6 := (invc_5.alloc (.cells (stA0 o1 false) 28))
    go_wp2_with (first | refine wpList_store_new rfl 28 _ _ rfl rfl w_5.heap.size (stA0 o1 false) rfl rfl _ (stA0 0 false) w_5 rfl rfl rfl (by kernel_rfl) (by kernel_rfl) ?_ | refine wpList_row_g rfl 44 _ rfl _ rfl _ _ _ _ o_6 Tryd.underlying44 rfl (by kernel_rfl) ?_)
    have r_7 := r_6
    have o_7 := o_6
    have x_7 := x_6
    have inv_7 := inv_6
    refine (hA2 _ inv_7.1).mono ?_; rintro e w_7 ⟨rfl, hb_7⟩
    have rc_7 := r_7.below hb_7 r_7.lt
    have oc_7 := o_7.below hb_7 o_7.lt
    have xc_7 := x_7.below hb_7 x_7.lt
    have invc_7 := inv_7.call hb_7
    clear r_7 o_7 x_7 inv_7 hb_7
    have x_8 := (xc_7.alloc (.cells (stA0 o2 false) 28))
    have y_8 := (Wd.Blk.new w_7 28 (stA0 o2 false))
    have inv_8 := (invc_7.alloc (.cells (stA0 o2 false) 28))
    have x0 := x_8.cell 0; have x1 := x_8.cell 1; simp at x0 x1
    have y0 := y_8.cell 0; have y1 := y_8.cell 1; simp at y0 y1
    go_wp2_with (first | refine wpList_store_new rfl 28 _ _ rfl rfl w_7.heap.size (stA0 o2 false) rfl rfl _ (stA0 0 false) w_7 rfl rfl rfl (by kernel_rfl) (by kernel_rfl) ?_)
    go_ret
    exact ⟨rfl, inv_8.2⟩
  · have hsb : (s1 == s2) = false := by simp [hs]
    subst hE ho h2
    clear hs
    have hb : (b1 == !!b1) = true := by simp
    go_enter Tryd.func10, Tryd.ntmps10
    go_wp2_with fail
    have r_1 := (Wd.Blk.new w 44 (rcA b c d p q))
    have inv_1 := (i0.alloc (.cells (rcA b c d p q) 44))
    refine (begins11_any _ inv_1.1).mono ?_; rintro e w_1 ⟨rfl, hb_1⟩
    have rc_1 := r_1.below hb_1 r_1.lt
    have invc_1 := inv_1.call hb_1
    clear r_1 inv_1 hb_1
    have c0 := rc_1.cell 0; have c1 := rc_1.cell 1; have c2 := rc_1.cell 2; simp at c0 c1 c2
    have r_2 := (rc_1.alloc (.cells (rcA b d c q p) 44))
    have o_2 := (Wd.Blk.new w_1 44 (rcA b d c q p))
    have inv_2 := (invc_1.alloc (.cells (rcA b d c q p) 44))
    go_wp2_with (first | refine wpList_store_new rfl 44 _ _ rfl rfl w_1.heap.size (rcA b d c q p) rfl rfl _ z19 w_1 rfl rfl rfl (by kernel_rfl) (by kernel_rfl) ?_ | refine wpList_seg_g rfl 42 _ rfl _ 3 (sA p) rfl _ _ _ _ rc_1 Tryd.underlying42 rfl (by kernel_rfl) (by kernel_rfl) ?_ | refine wpList_seg_g rfl 42 _ rfl _ 11 (sA q) rfl _ _ _ _ rc_1 Tryd.underlying42 rfl (by kernel_rfl) (by kernel_rfl) ?_ | refine wpList_row_g rfl 44 _ rfl _ rfl _ _ _ _ r_2 Tryd.underlying44 rfl (by kernel_rfl) ?_)
    clear c0 c1 c2
    have r_3 := r_2
    have o_3 := o_2
    have inv_3 := inv_2
    refine (hT1 _ inv_3.1).mono ?_; rintro e w_3 ⟨rfl, hb_3⟩
    have rc_3 := r_3.below hb_3 r_3.lt
    have oc_3 := o_3.below hb_3 o_3.lt
    have invc_3 := inv_3.call hb_3
    clear r_3 o_3 inv_3 hb_3
    go_wp2_with (refine wpList_row_g rfl 44 _ rfl _ rfl _ _ _ _ oc_3 Tryd.underlying44 rfl (by kernel_rfl) ?_)
    have r_4 := rc_3
    have o_4 := oc_3
    have inv_4 := invc_3
    refine (hT2 _ inv_4.1).mono ?_; rintro e w_4 ⟨rfl, hb_4⟩
    have rc_4 := r_4.below hb_4 r_4.lt
    have oc_4 := o_4.below hb_4 o_4.lt
    have invc_4 := inv_4.call hb_4
    clear r_4 o_4 inv_4 hb_4
    go_wp2_with (refine wpList_row_g rfl 44 _ rfl _ rfl _ _ _ _ rc_4 Tryd.underlying44 rfl (by kernel_rfl) ?_)
    have r_5 := rc_4
    have o_5 := oc_4
    have inv_5 := invc_4
    refine (hA1 _ inv_5.1).mono ?_; rintro e w_5 ⟨rfl, hb_5⟩
    have rc_5 := r_5.below hb_5 r_5.lt
    have oc_5 := o_5.below hb_5 o_5.lt
    have invc_5 := inv_5.call hb_5
    clear r_5 o_5 inv_5 hb_5
    have r_6 := (rc_5.alloc (.cells (stA0 o1 b1) 28))
    have o_6 := (oc_5.alloc (.cells (stA0 o1 b1) 28))
    have x_6 := (Wd.Blk.new w_5 28 (stA0 o1 b1))
    have inv_6 := (invc_5.alloc (.cells (stA0 o1 b1) 28))
    go_wp2_with (first | refine wpList_store_new rfl 28 _ _ rfl rfl w_5.heap.size (stA0 o1 b1) rfl rfl _ (stA0 0 false) w_5 rfl rfl rfl (by kernel_rfl) (by kernel_rfl) ?_ | refine wpList_row_g rfl 44 _ rfl _ rfl _ _ _ _ o_6 Tryd.underlying44 rfl (by kernel_rfl) ?_)
    have r_7 := r_6
    have o_7 := o_6
    have x_7 := x_6
    have inv_7 := inv_6
    refine (hA2 _ inv_7.1).mono ?_; rintro e w_7 ⟨rfl, hb_7⟩
    have rc_7 := r_7.below hb_7 r_7.lt
    have oc_7 := o_7.below hb_7 o_7.lt
    have xc_7 := x_7.below hb_7 x_7.lt
    have invc_7 := inv_7.call hb_7
    clear r_7 o_7 x_7 inv_7 hb_7
    have x_8 := (xc_7.alloc (.cells (stA0 o1 (!b1)) 28))
    have y_8 := (Wd.Blk.new w_7 28 (stA0 o1 (!b1)))
    have inv_8 := (invc_7.alloc (.cells (stA0 o1 (!b1)) 28))
    have x0 := x_8.cell 0; have x1 := x_8.cell 1; simp at x0 x1
    have y0 := y_8.cell 0; have y1 := y_8.cell 1; simp at y0 y1
    go_wp2_with (first | refine wpList_store_new rfl 28 _ _ rfl rfl w_7.heap.size (stA0 o1 (!b1)) rfl rfl _ (stA0 0 false) w_7 rfl rfl rfl (by kernel_rfl) (by kernel_rfl) ?_)
    go_ret
    exact ⟨rfl, inv_8.2⟩
  · have hEb : (E != 0) = true := by simp [hE]
    subst hs1 hs2
    clear hE
    go_enter Tryd.func10, Tryd.ntmps10
    go_wp2_with fail
    have r_1 := (Wd.Blk.new w 44 (rcA b c d p q))
    have inv_1 := (i0.alloc (.cells (rcA b c d p q) 44))
    refine (begins11_any _ inv_1.1).mono ?_; rintro e w_1 ⟨rfl, hb_1⟩
    have rc_1 := r_1.below hb_1 r_1.lt
    have invc_1 := inv_1.call hb_1
    clear r_1 inv_1 hb_1
    have c0 := rc_1.cell 0; have c1 := rc_1.cell 1; have c2 := rc_1.cell 2; simp at c0 c1 c2
    have r_2 := (rc_1.alloc (.cells (rcA b d c q p) 44))
    have o_2 := (Wd.Blk.new w_1 44 (rcA b d c q p))
    have inv_2 := (invc_1.alloc (.cells (rcA b d c q p) 44))
    go_wp2_with (first | refine wpList_store_new rfl 44 _ _ rfl rfl w_1.heap.size (rcA b d c q p) rfl rfl _ z19 w_1 rfl rfl rfl (by kernel_rfl) (by kernel_rfl) ?_ | refine wpList_seg_g rfl 42 _ rfl _ 3 (sA p) rfl _ _ _ _ rc_1 Tryd.underlying42 rfl (by kernel_rfl) (by kernel_rfl) ?_ | refine wpList_seg_g rfl 42 _ rfl _ 11 (sA q) rfl _ _ _ _ rc_1 Tryd.underlying42 rfl (by kernel_rfl) (by kernel_rfl) ?_ | refine wpList_row_g rfl 44 _ rfl _ rfl _ _ _ _ r_2 Tryd.underlying44 rfl (by kernel_rfl) ?_)
    clear c0 c1 c2
    have r_3 := r_2
    have o_3 := o_2
    have inv_3 := inv_2
    refine (hT1 _ inv_3.1).mono ?_; rintro e w_3 ⟨rfl, hb_3⟩
    have rc_3 := r_3.below hb_3 r_3.lt
    have oc_3 := o_3.below hb_3 o_3.lt
    have invc_3 := inv_3.call hb_3
    clear r_3 o_3 inv_3 hb_3
    go_wp2_with (refine wpList_row_g rfl 44 _ rfl _ rfl _ _ _ _ oc_3 Tryd.underlying44 rfl (by kernel_rfl) ?_)
    have r_4 := rc_3
    have o_4 := oc_3
    have inv_4 := invc_3
    refine (hT2 _ inv_4.1).mono ?_; rintro e w_4 ⟨rfl, hb_4⟩
    have rc_4 := r_4.below hb_4 r_4.lt
    have oc_4 := o_4.below hb_4 o_4.lt
    have invc_4 := inv_4.call hb_4
    clear r_4 o_4 inv_4 hb_4
    go_wp2_with (refine wpList_row_g rfl 44 _ rfl _ rfl _ _ _ _ rc_4 Tryd.underlying44 rfl (by kernel_rfl) ?_)
    have r_5 := rc_4
    have o_5 := oc_4
    have inv_5 := invc_4
    refine (hA1 _ inv_5.1).mono ?_; rintro e w_5 ⟨rfl, hb_5⟩
    have rc_5 := r_5.below hb_5 r_5.lt
    have oc_5 := o_5.below hb_5 o_5.lt
    have invc_5 := inv_5.call hb_5
    clear r_5 o_5 inv_5 hb_5
    have r_6 := (rc_5.alloc (.cells (stA0 o1 b1) 28))
    have o_6 := (oc_5.alloc (.cells (stA0 o1 b1) 28))
    have x_6 := (Wd.Blk.new w_5 28 (stA0 o1 b1))
    have inv_6 := (invc_5.alloc (.cells (stA0 o1 b1) 28))
    go_wp2_with (first | refine wpList_store_new rfl 28 _ _ rfl rfl w_5.heap.size (stA0 o1 b1) rfl rfl _ (stA0 0 false) w_5 rfl rfl rfl (by kernel_rfl) (by kernel_rfl) ?_ | refine wpList_row_g rfl 44 _ rfl _ rfl _ _ _ _ o_6 Tryd.underlying44 rfl (by kernel_rfl) ?_)
    have r_7 := r_6
    have o_7 := o_6
    have x_7 := x_6
    have inv_7 := inv_6
    refine (hA2 _ inv_7.1).mono ?_; rintro e w_7 ⟨rfl, hb_7⟩
    have rc_7 := r_7.below hb_7 r_7.lt
    have oc_7 := o_7.below hb_7 o_7.lt
    have xc_7 := x_7.below hb_7 x_7.lt
    have invc_7 := inv_7.call hb_7
    clear r_7 o_7 x_7 inv_7 hb_7
    have x_8 := (xc_7.alloc (.cells (stA0 o2 b2) 28))
    have y_8 := (Wd.Blk.new w_7 28 (stA0 o2 b2))
    have inv_8 := (invc_7.alloc (.cells (stA0 o2 b2) 28))
    have x0 := x_8.cell 0; have x1 := x_8.cell 1; simp at x0 x1
    have y0 := y_8.cell 0; have y1 := y_8.cell 1; simp at y0 y1
    go_wp2_with (first | refine wpList_store_new rfl 28 _ _ rfl rfl w_7.heap.size (stA0 o2 b2) rfl rfl _ (stA0 0 false) w_7 rfl rfl rfl (by kernel_rfl) (by kernel_rfl) ?_)
    go_ret
    exact ⟨rfl, inv_8.2⟩
end Go.Proofs.YtoeeoglddhhdiaaDoor.Yr
