/-
  THE REFERENCE OF SHAPES, walked: Like, Record, a day's check, Rule.
-/
import Derived.Test.YtefcjccapekjdaaDoorShR
import Derived.Test.YtefcjccapekjdaaDoorRfR
import Derived.Deep.RegionHeld3
import Derived.Deep.DrawnRows
namespace Go.Proofs.YtefcjccapekjdaaDoor.Sh
open Go.ChangeShapes Go.WideShapes Go.ChangeAt Go.RowKit
open Go.Proofs.YtefcjccapekjdaaDoor
open Go.Proofs.YtefcjccapekjdaaDoor.Wd
open Go.Proofs.YtefcjccapekjdaaDoor.Rec
open Go.Proofs.YtefcjccapekjdaaDoor.Yr
open Go.Proofs.YtefcjccapekjdaaDoor.Tb
open Go.Proofs.YtefcjccapekjdaaDoor.Civ (Tab Inv ret_int)
open Go.Proofs.YtefcjccapekjdaaDoor.Dy
set_option linter.unusedVariables false
set_option linter.unusedSimpArgs false
attribute [local go_sem ↓] Go.wp_at_zero Go.wp_at_succ
theorem rlocal_st (s : St) (Y : Int) (w : World) (hT : Tab w) (B : s.Bd) :
    Calls Tryd.prog 112 #[.agg (sA s), .int .i64 Y] w fun e w' => e = .returned (.tuple #[.int .i64 (lcS s Y), .int .i64 (leS s Y)]) ∧ Below w.heap.size w w' :=
  Rf.rlocal_any _ _ _ _ _ _ _ _ Y w hT B
set_option maxRecDepth 100000 in
set_option maxHeartbeats 6400000 in
theorem rlike_no (s o : St) (Y : Int) (w : World) (hT : Tab w) (B : s.Bd) (Bo : o.Bd) (h : leS s Y ≠ 0) :
    Calls Tryd.prog 70 #[.agg (sA s), .agg (sA o), .int .i64 Y] w fun e w' => e = .returned (.agg (sA (likeV s o Y))) ∧ Below w.heap.size w w' := by
  have i0 := Inv.start hT
  have hls := fun w hT => rlocal_st s Y w hT B
  have hlo := fun w hT => rlocal_st o Y w hT Bo
  rw [show likeV s o Y = s by unfold likeV; rw [if_neg (fun q => h q.1)]]
  have e1 : (leS s Y == 0) = false := by rw [beq_eq_false_iff_ne]; exact h
  generalize leS s Y = E at *
  generalize lcS s Y = C at *
  generalize leS o Y = E2 at *
  generalize lcS o Y = C2 at *
  go_enter Tryd.func70, Tryd.ntmps70
  go_wp2_with (first | refine wpList_row_g rfl 24 _ rfl _ rfl _ _ _ _ (((Wd.Blk.new w 24 (sA s)).alloc (.cells (sA o) 24)).alloc (.cells #[.int .u16 0, .int .u16 0, .int .u16 0, .int .u16 0, .int .u16 0, .int .u16 0, .int .u16 0, .int .u16 0] 24)) Tryd.underlying24 rfl (by kernel_rfl) ?_)
  have s_1 := (((Wd.Blk.new w 24 (sA s)).alloc (.cells (sA o) 24)).alloc (.cells #[.int .u16 0, .int .u16 0, .int .u16 0, .int .u16 0, .int .u16 0, .int .u16 0, .int .u16 0, .int .u16 0] 24))
  have o_1 := ((blk_at (w.alloc (.cells (sA s) 24)) 24 (sA o) (sz1 _ _ rfl)).alloc (.cells #[.int .u16 0, .int .u16 0, .int .u16 0, .int .u16 0, .int .u16 0, .int .u16 0, .int .u16 0, .int .u16 0] 24))
  have r_1 := (blk_at ((w.alloc (.cells (sA s) 24)).alloc (.cells (sA o) 24)) 24 #[.int .u16 0, .int .u16 0, .int .u16 0, .int .u16 0, .int .u16 0, .int .u16 0, .int .u16 0, .int .u16 0] (sz1 _ _ (sz1 _ _ rfl)))
  have inv_1 := (((i0.alloc (.cells (sA s) 24)).alloc (.cells (sA o) 24)).alloc (.cells #[.int .u16 0, .int .u16 0, .int .u16 0, .int .u16 0, .int .u16 0, .int .u16 0, .int .u16 0, .int .u16 0] 24))
  refine (hls _ inv_1.1).mono ?_; rintro e w_1 ⟨rfl, hb_1⟩
  have sc_1 := s_1.below hb_1 s_1.lt
  have oc_1 := o_1.below hb_1 o_1.lt
  have rc_1 := r_1.below hb_1 r_1.lt
  have invc_1 := inv_1.call hb_1
  clear s_1 o_1 r_1 inv_1 hb_1
  go_wp2_with (first | refine wpList_row_g rfl 24 _ rfl _ rfl _ _ _ _ oc_1 Tryd.underlying24 rfl (by kernel_rfl) ?_)
  have s_2 := sc_1
  have o_2 := oc_1
  have r_2 := rc_1
  have inv_2 := invc_1
  refine (hlo _ inv_2.1).mono ?_; rintro e w_2 ⟨rfl, hb_2⟩
  have sc_2 := s_2.below hb_2 s_2.lt
  have oc_2 := o_2.below hb_2 o_2.lt
  have rc_2 := r_2.below hb_2 r_2.lt
  have invc_2 := inv_2.call hb_2
  clear s_2 o_2 r_2 inv_2 hb_2
  have s_3 := sc_2
  have o_3 := oc_2
  have r_3 := rc_2
  have inv_3 := invc_2
  have rz : Blk w_2 (w.heap.size + 1 + 1) 24 #[.int .u16 0, .int .u16 0, .int .u16 0, .int .u16 0, .int .u16 0, .int .u16 0, .int .u16 0, .int .u16 0] := r_3
  go_wp2_with (first | refine wpList_row_g rfl 24 _ rfl _ rfl _ _ _ _ s_3 Tryd.underlying24 rfl (by kernel_rfl) ?_ | refine wpList_store_g rfl 24 _ _ rfl rfl (w.heap.size + 1 + 1) 0 (sA s) (sA s) rfl rfl _ _ rz (by show 0 + 8 ≤ 8; decide) (by kernel_rfl) (by kernel_rfl) (by kernel_rfl) ?_)
  exact bodyPost_ret (res_c rfl _ _ _ _ (sA s) _ rfl (Blk.row rz _) Tryd.underlying24 rfl (by kernel_rfl)) rfl ⟨rfl, below_row inv_3.2 (by omega) _⟩
set_option maxRecDepth 100000 in
set_option maxHeartbeats 6400000 in
theorem rlike_not (s o : St) (Y : Int) (w : World) (hT : Tab w) (B : s.Bd) (Bo : o.Bd) (h : leS s Y = 0) (h2 : leS o Y ≠ 0) :
    Calls Tryd.prog 70 #[.agg (sA s), .agg (sA o), .int .i64 Y] w fun e w' => e = .returned (.agg (sA (likeV s o Y))) ∧ Below w.heap.size w w' := by
  have i0 := Inv.start hT
  have hls := fun w hT => rlocal_st s Y w hT B
  have hlo := fun w hT => rlocal_st o Y w hT Bo
  rw [show likeV s o Y = s by unfold likeV; rw [if_neg (fun q => h2 q.2.1)]]
  have e1 : (leS o Y == 0) = false := by rw [beq_eq_false_iff_ne]; exact h2
  simp only [h] at hls
  clear h
  generalize leS o Y = E at *
  generalize lcS s Y = C at *
  generalize lcS o Y = C2 at *
  go_enter Tryd.func70, Tryd.ntmps70
  go_wp2_with (first | refine wpList_row_g rfl 24 _ rfl _ rfl _ _ _ _ (((Wd.Blk.new w 24 (sA s)).alloc (.cells (sA o) 24)).alloc (.cells #[.int .u16 0, .int .u16 0, .int .u16 0, .int .u16 0, .int .u16 0, .int .u16 0, .int .u16 0, .int .u16 0] 24)) Tryd.underlying24 rfl (by kernel_rfl) ?_)
  have s_1 := (((Wd.Blk.new w 24 (sA s)).alloc (.cells (sA o) 24)).alloc (.cells #[.int .u16 0, .int .u16 0, .int .u16 0, .int .u16 0, .int .u16 0, .int .u16 0, .int .u16 0, .int .u16 0] 24))
  have o_1 := ((blk_at (w.alloc (.cells (sA s) 24)) 24 (sA o) (sz1 _ _ rfl)).alloc (.cells #[.int .u16 0, .int .u16 0, .int .u16 0, .int .u16 0, .int .u16 0, .int .u16 0, .int .u16 0, .int .u16 0] 24))
  have r_1 := (blk_at ((w.alloc (.cells (sA s) 24)).alloc (.cells (sA o) 24)) 24 #[.int .u16 0, .int .u16 0, .int .u16 0, .int .u16 0, .int .u16 0, .int .u16 0, .int .u16 0, .int .u16 0] (sz1 _ _ (sz1 _ _ rfl)))
  have inv_1 := (((i0.alloc (.cells (sA s) 24)).alloc (.cells (sA o) 24)).alloc (.cells #[.int .u16 0, .int .u16 0, .int .u16 0, .int .u16 0, .int .u16 0, .int .u16 0, .int .u16 0, .int .u16 0] 24))
  refine (hls _ inv_1.1).mono ?_; rintro e w_1 ⟨rfl, hb_1⟩
  have sc_1 := s_1.below hb_1 s_1.lt
  have oc_1 := o_1.below hb_1 o_1.lt
  have rc_1 := r_1.below hb_1 r_1.lt
  have invc_1 := inv_1.call hb_1
  clear s_1 o_1 r_1 inv_1 hb_1
  go_wp2_with (first | refine wpList_row_g rfl 24 _ rfl _ rfl _ _ _ _ oc_1 Tryd.underlying24 rfl (by kernel_rfl) ?_)
  have s_2 := sc_1
  have o_2 := oc_1
  have r_2 := rc_1
  have inv_2 := invc_1
  refine (hlo _ inv_2.1).mono ?_; rintro e w_2 ⟨rfl, hb_2⟩
  have sc_2 := s_2.below hb_2 s_2.lt
  have oc_2 := o_2.below hb_2 o_2.lt
  have rc_2 := r_2.below hb_2 r_2.lt
  have invc_2 := inv_2.call hb_2
  clear s_2 o_2 r_2 inv_2 hb_2
  have s_3 := sc_2
  have o_3 := oc_2
  have r_3 := rc_2
  have inv_3 := invc_2
  have rz : Blk w_2 (w.heap.size + 1 + 1) 24 #[.int .u16 0, .int .u16 0, .int .u16 0, .int .u16 0, .int .u16 0, .int .u16 0, .int .u16 0, .int .u16 0] := r_3
  go_wp2_with (first | refine wpList_row_g rfl 24 _ rfl _ rfl _ _ _ _ s_3 Tryd.underlying24 rfl (by kernel_rfl) ?_ | refine wpList_store_g rfl 24 _ _ rfl rfl (w.heap.size + 1 + 1) 0 (sA s) (sA s) rfl rfl _ _ rz (by show 0 + 8 ≤ 8; decide) (by kernel_rfl) (by kernel_rfl) (by kernel_rfl) ?_)
  exact bodyPost_ret (res_c rfl _ _ _ _ (sA s) _ rfl (Blk.row rz _) Tryd.underlying24 rfl (by kernel_rfl)) rfl ⟨rfl, below_row inv_3.2 (by omega) _⟩
set_option maxRecDepth 100000 in
set_option maxHeartbeats 6400000 in
theorem rlike_far (s o : St) (Y : Int) (w : World) (hT : Tab w) (B : s.Bd) (Bo : o.Bd) (h : leS s Y = 0) (h2 : leS o Y = 0) (h3 : lcS s Y ≠ lcS o Y) :
    Calls Tryd.prog 70 #[.agg (sA s), .agg (sA o), .int .i64 Y] w fun e w' => e = .returned (.agg (sA (likeV s o Y))) ∧ Below w.heap.size w w' := by
  have i0 := Inv.start hT
  have hls := fun w hT => rlocal_st s Y w hT B
  have hlo := fun w hT => rlocal_st o Y w hT Bo
  rw [show likeV s o Y = s by unfold likeV; rw [if_neg (fun q => h3 q.2.2)]]
  simp only [h] at hls
  simp only [h2] at hlo
  have e1 : (lcS s Y == lcS o Y) = false := by rw [beq_eq_false_iff_ne]; exact h3
  clear h h2
  generalize lcS s Y = C at *
  generalize lcS o Y = C2 at *
  go_enter Tryd.func70, Tryd.ntmps70
  go_wp2_with (first | refine wpList_row_g rfl 24 _ rfl _ rfl _ _ _ _ (((Wd.Blk.new w 24 (sA s)).alloc (.cells (sA o) 24)).alloc (.cells #[.int .u16 0, .int .u16 0, .int .u16 0, .int .u16 0, .int .u16 0, .int .u16 0, .int .u16 0, .int .u16 0] 24)) Tryd.underlying24 rfl (by kernel_rfl) ?_)
  have s_1 := (((Wd.Blk.new w 24 (sA s)).alloc (.cells (sA o) 24)).alloc (.cells #[.int .u16 0, .int .u16 0, .int .u16 0, .int .u16 0, .int .u16 0, .int .u16 0, .int .u16 0, .int .u16 0] 24))
  have o_1 := ((blk_at (w.alloc (.cells (sA s) 24)) 24 (sA o) (sz1 _ _ rfl)).alloc (.cells #[.int .u16 0, .int .u16 0, .int .u16 0, .int .u16 0, .int .u16 0, .int .u16 0, .int .u16 0, .int .u16 0] 24))
  have r_1 := (blk_at ((w.alloc (.cells (sA s) 24)).alloc (.cells (sA o) 24)) 24 #[.int .u16 0, .int .u16 0, .int .u16 0, .int .u16 0, .int .u16 0, .int .u16 0, .int .u16 0, .int .u16 0] (sz1 _ _ (sz1 _ _ rfl)))
  have inv_1 := (((i0.alloc (.cells (sA s) 24)).alloc (.cells (sA o) 24)).alloc (.cells #[.int .u16 0, .int .u16 0, .int .u16 0, .int .u16 0, .int .u16 0, .int .u16 0, .int .u16 0, .int .u16 0] 24))
  refine (hls _ inv_1.1).mono ?_; rintro e w_1 ⟨rfl, hb_1⟩
  have sc_1 := s_1.below hb_1 s_1.lt
  have oc_1 := o_1.below hb_1 o_1.lt
  have rc_1 := r_1.below hb_1 r_1.lt
  have invc_1 := inv_1.call hb_1
  clear s_1 o_1 r_1 inv_1 hb_1
  go_wp2_with (first | refine wpList_row_g rfl 24 _ rfl _ rfl _ _ _ _ oc_1 Tryd.underlying24 rfl (by kernel_rfl) ?_)
  have s_2 := sc_1
  have o_2 := oc_1
  have r_2 := rc_1
  have inv_2 := invc_1
  refine (hlo _ inv_2.1).mono ?_; rintro e w_2 ⟨rfl, hb_2⟩
  have sc_2 := s_2.below hb_2 s_2.lt
  have oc_2 := o_2.below hb_2 o_2.lt
  have rc_2 := r_2.below hb_2 r_2.lt
  have invc_2 := inv_2.call hb_2
  clear s_2 o_2 r_2 inv_2 hb_2
  have s_3 := sc_2
  have o_3 := oc_2
  have r_3 := rc_2
  have inv_3 := invc_2
  have rz : Blk w_2 (w.heap.size + 1 + 1) 24 #[.int .u16 0, .int .u16 0, .int .u16 0, .int .u16 0, .int .u16 0, .int .u16 0, .int .u16 0, .int .u16 0] := r_3
  go_wp2_with (first | refine wpList_row_g rfl 24 _ rfl _ rfl _ _ _ _ s_3 Tryd.underlying24 rfl (by kernel_rfl) ?_ | refine wpList_store_g rfl 24 _ _ rfl rfl (w.heap.size + 1 + 1) 0 (sA s) (sA s) rfl rfl _ _ rz (by show 0 + 8 ≤ 8; decide) (by kernel_rfl) (by kernel_rfl) (by kernel_rfl) ?_)
  exact bodyPost_ret (res_c rfl _ _ _ _ (sA s) _ rfl (Blk.row rz _) Tryd.underlying24 rfl (by kernel_rfl)) rfl ⟨rfl, below_row inv_3.2 (by omega) _⟩
set_option maxRecDepth 100000 in
set_option maxHeartbeats 6400000 in
theorem rlike_yes (s o : St) (Y : Int) (w : World) (hT : Tab w) (B : s.Bd) (Bo : o.Bd) (h : leS s Y = 0) (h2 : leS o Y = 0) (h3 : lcS s Y = lcS o Y) :
    Calls Tryd.prog 70 #[.agg (sA s), .agg (sA o), .int .i64 Y] w fun e w' => e = .returned (.agg (sA (likeV s o Y))) ∧ Below w.heap.size w w' := by
  have i0 := Inv.start hT
  have hls := fun w hT => rlocal_st s Y w hT B
  have hlo := fun w hT => rlocal_st o Y w hT Bo
  rw [show likeV s o Y = o by unfold likeV; rw [if_pos ⟨h, h2, h3⟩]]
  simp only [h] at hls
  simp only [h2, ← h3] at hlo
  clear h h2 h3
  generalize lcS s Y = C at *
  have e1 : (C == C) = true := by simp
  go_enter Tryd.func70, Tryd.ntmps70
  go_wp2_with (first | refine wpList_row_g rfl 24 _ rfl _ rfl _ _ _ _ (((Wd.Blk.new w 24 (sA s)).alloc (.cells (sA o) 24)).alloc (.cells #[.int .u16 0, .int .u16 0, .int .u16 0, .int .u16 0, .int .u16 0, .int .u16 0, .int .u16 0, .int .u16 0] 24)) Tryd.underlying24 rfl (by kernel_rfl) ?_)
  have s_1 := (((Wd.Blk.new w 24 (sA s)).alloc (.cells (sA o) 24)).alloc (.cells #[.int .u16 0, .int .u16 0, .int .u16 0, .int .u16 0, .int .u16 0, .int .u16 0, .int .u16 0, .int .u16 0] 24))
  have o_1 := ((blk_at (w.alloc (.cells (sA s) 24)) 24 (sA o) (sz1 _ _ rfl)).alloc (.cells #[.int .u16 0, .int .u16 0, .int .u16 0, .int .u16 0, .int .u16 0, .int .u16 0, .int .u16 0, .int .u16 0] 24))
  have r_1 := (blk_at ((w.alloc (.cells (sA s) 24)).alloc (.cells (sA o) 24)) 24 #[.int .u16 0, .int .u16 0, .int .u16 0, .int .u16 0, .int .u16 0, .int .u16 0, .int .u16 0, .int .u16 0] (sz1 _ _ (sz1 _ _ rfl)))
  have inv_1 := (((i0.alloc (.cells (sA s) 24)).alloc (.cells (sA o) 24)).alloc (.cells #[.int .u16 0, .int .u16 0, .int .u16 0, .int .u16 0, .int .u16 0, .int .u16 0, .int .u16 0, .int .u16 0] 24))
  refine (hls _ inv_1.1).mono ?_; rintro e w_1 ⟨rfl, hb_1⟩
  have sc_1 := s_1.below hb_1 s_1.lt
  have oc_1 := o_1.below hb_1 o_1.lt
  have rc_1 := r_1.below hb_1 r_1.lt
  have invc_1 := inv_1.call hb_1
  clear s_1 o_1 r_1 inv_1 hb_1
  go_wp2_with (first | refine wpList_row_g rfl 24 _ rfl _ rfl _ _ _ _ oc_1 Tryd.underlying24 rfl (by kernel_rfl) ?_)
  have s_2 := sc_1
  have o_2 := oc_1
  have r_2 := rc_1
  have inv_2 := invc_1
  refine (hlo _ inv_2.1).mono ?_; rintro e w_2 ⟨rfl, hb_2⟩
  have sc_2 := s_2.below hb_2 s_2.lt
  have oc_2 := o_2.below hb_2 o_2.lt
  have rc_2 := r_2.below hb_2 r_2.lt
  have invc_2 := inv_2.call hb_2
  clear s_2 o_2 r_2 inv_2 hb_2
  have s_3 := sc_2
  have o_3 := oc_2
  have r_3 := rc_2
  have inv_3 := invc_2
  have rz : Blk w_2 (w.heap.size + 1 + 1) 24 #[.int .u16 0, .int .u16 0, .int .u16 0, .int .u16 0, .int .u16 0, .int .u16 0, .int .u16 0, .int .u16 0] := r_3
  go_wp2_with (first | refine wpList_row_g rfl 24 _ rfl _ rfl _ _ _ _ o_3 Tryd.underlying24 rfl (by kernel_rfl) ?_ | refine wpList_store_g rfl 24 _ _ rfl rfl (w.heap.size + 1 + 1) 0 (sA o) (sA o) rfl rfl _ _ rz (by show 0 + 8 ≤ 8; decide) (by kernel_rfl) (by kernel_rfl) (by kernel_rfl) ?_)
  exact bodyPost_ret (res_c rfl _ _ _ _ (sA o) _ rfl (Blk.row rz _) Tryd.underlying24 rfl (by kernel_rfl)) rfl ⟨rfl, below_row inv_3.2 (by omega) _⟩
theorem rlike_any (s o : St) (Y : Int) (w : World) (hT : Tab w) (B : s.Bd) (Bo : o.Bd) :
    Calls Tryd.prog 70 #[.agg (sA s), .agg (sA o), .int .i64 Y] w fun e w' => e = .returned (.agg (sA (likeV s o Y))) ∧ Below w.heap.size w w' := by
  by_cases h : leS s Y = 0
  · by_cases h2 : leS o Y = 0
    · by_cases h3 : lcS s Y = lcS o Y
      · exact rlike_yes s o Y w hT B Bo h h2 h3
      · exact rlike_far s o Y w hT B Bo h h2 h3
    · exact rlike_not s o Y w hT B Bo h h2
  · exact rlike_no s o Y w hT B Bo h
theorem xk_mk {w W : World} {o : Rc} (iv : Inv w W) (ho : Blk W (w.heap.size + 1) 26 (rcA o.b o.c o.d o.p o.q)) (hz : Blk W (w.heap.size + 1 + 1) 26 #[.int .i32 0, .int .i32 0, .int .i32 0, .int .u16 0, .int .u16 0, .int .u16 0, .int .u16 0, .int .u16 0, .int .u16 0, .int .u16 0, .int .u16 0, .int .u16 0, .int .u16 0, .int .u16 0, .int .u16 0, .int .u16 0, .int .u16 0, .int .u16 0, .int .u16 0]) :
    Inv w W ∧ Blk W (w.heap.size + 1) 26 (rcA o.b o.c o.d o.p o.q) ∧ Blk W (w.heap.size + 1 + 1) 26 #[.int .i32 0, .int .i32 0, .int .i32 0, .int .u16 0, .int .u16 0, .int .u16 0, .int .u16 0, .int .u16 0, .int .u16 0, .int .u16 0, .int .u16 0, .int .u16 0, .int .u16 0, .int .u16 0, .int .u16 0, .int .u16 0, .int .u16 0, .int .u16 0, .int .u16 0] ∧ ldT 24 (.pointer (some ⟨w.heap.size + 1, 3, none⟩)) W = some (sA o.p) ∧ ldT 24 (.pointer (some ⟨w.heap.size + 1, 11, none⟩)) W = some (sA o.q) :=
  ⟨iv, ho, hz, ldT_of (ld_seg ho Tryd.underlying24 rfl (by kernel_rfl) (by kernel_rfl)), ldT_of (ld_seg ho Tryd.underlying24 rfl (by kernel_rfl) (by kernel_rfl))⟩
theorem xk_on {w W W2 : World} {o : Rc} (h : Inv w W ∧ Blk W (w.heap.size + 1) 26 (rcA o.b o.c o.d o.p o.q) ∧ Blk W (w.heap.size + 1 + 1) 26 #[.int .i32 0, .int .i32 0, .int .i32 0, .int .u16 0, .int .u16 0, .int .u16 0, .int .u16 0, .int .u16 0, .int .u16 0, .int .u16 0, .int .u16 0, .int .u16 0, .int .u16 0, .int .u16 0, .int .u16 0, .int .u16 0, .int .u16 0, .int .u16 0, .int .u16 0] ∧ ldT 24 (.pointer (some ⟨w.heap.size + 1, 3, none⟩)) W = some (sA o.p) ∧ ldT 24 (.pointer (some ⟨w.heap.size + 1, 11, none⟩)) W = some (sA o.q)) (hb : Below W.heap.size W W2) :
    Inv w W2 ∧ Blk W2 (w.heap.size + 1) 26 (rcA o.b o.c o.d o.p o.q) ∧ Blk W2 (w.heap.size + 1 + 1) 26 #[.int .i32 0, .int .i32 0, .int .i32 0, .int .u16 0, .int .u16 0, .int .u16 0, .int .u16 0, .int .u16 0, .int .u16 0, .int .u16 0, .int .u16 0, .int .u16 0, .int .u16 0, .int .u16 0, .int .u16 0, .int .u16 0, .int .u16 0, .int .u16 0, .int .u16 0] ∧ ldT 24 (.pointer (some ⟨w.heap.size + 1, 3, none⟩)) W2 = some (sA o.p) ∧ ldT 24 (.pointer (some ⟨w.heap.size + 1, 11, none⟩)) W2 = some (sA o.q) :=
  xk_mk (h.1.call hb) (h.2.1.below hb h.2.1.lt) (h.2.2.1.below hb h.2.2.1.lt)
theorem xk_st {w W : World} {o : Rc} (hT : Tab w) (cs : Array Value) (h : Inv w W ∧ Blk W (w.heap.size + 1) 26 (rcA o.b o.c o.d o.p o.q) ∧ Blk W (w.heap.size + 1 + 1) 26 #[.int .i32 0, .int .i32 0, .int .i32 0, .int .u16 0, .int .u16 0, .int .u16 0, .int .u16 0, .int .u16 0, .int .u16 0, .int .u16 0, .int .u16 0, .int .u16 0, .int .u16 0, .int .u16 0, .int .u16 0, .int .u16 0, .int .u16 0, .int .u16 0, .int .u16 0] ∧ ldT 24 (.pointer (some ⟨w.heap.size + 1, 3, none⟩)) W = some (sA o.p) ∧ ldT 24 (.pointer (some ⟨w.heap.size + 1, 11, none⟩)) W = some (sA o.q)) :
    Inv w (W.setRow w.heap.size cs) ∧ Blk (W.setRow w.heap.size cs) (w.heap.size + 1) 26 (rcA o.b o.c o.d o.p o.q) ∧ Blk (W.setRow w.heap.size cs) (w.heap.size + 1 + 1) 26 #[.int .i32 0, .int .i32 0, .int .i32 0, .int .u16 0, .int .u16 0, .int .u16 0, .int .u16 0, .int .u16 0, .int .u16 0, .int .u16 0, .int .u16 0, .int .u16 0, .int .u16 0, .int .u16 0, .int .u16 0, .int .u16 0, .int .u16 0, .int .u16 0, .int .u16 0] ∧ ldT 24 (.pointer (some ⟨w.heap.size + 1, 3, none⟩)) (W.setRow w.heap.size cs) = some (sA o.p) ∧ ldT 24 (.pointer (some ⟨w.heap.size + 1, 11, none⟩)) (W.setRow w.heap.size cs) = some (sA o.q) :=
  xk_mk (inv_of hT (below_row h.1.2 (Nat.le_refl _) _)) (Blk.rowFar h.2.1 (by omega) _) (Blk.rowFar h.2.2.1 (by omega) _)
theorem wp_ld {P : Program} {o : Oper} {a : Act} {w : World} {K : Act → World → Prop} {Q : Exit → Act → World → Prop} (ty : TypeId) (x : Operand) (ho : o.op = .load ty x)
    (v : Value) (new : Array Value) (hx : a.eval x = v) (hl : (Instr.loadAt ty v).run P w = .ok (.agg new) w)
    (h : K (a.put o.dst (.agg new)) w) : o.wp P a w K Q := by
  unfold Oper.wp execOp
  simp only [ho, hx, Sem.run_bind, Sem.run_pure, Result.andThen_ok, hl]
  exact h
theorem wp_store_g {P : Program} {o : Oper} {a : Act} {w : World} {K : Act → World → Prop} {Q : Exit → Act → World → Prop} (ty : TypeId) (x y : Operand) (ho : o.op = .store ty x y) (hd : o.dst = none)
    (g k : Nat) (cells new : Array Value) (hx : a.eval x = .pointer (some ⟨g, k, none⟩)) (hy : a.eval y = .agg cells) (t : TypeId) (old : Array Value) (hg : Blk w g t old)
    (hl : k + cells.size ≤ old.size) (hi : (P.info? ty).map (·.size) = some cells.size) (h1 : cells.all (·.oneCell') = true) (hn : (old.toList.take k ++ cells.toList ++ old.toList.drop (k + cells.size)).toArray = new)
    (h : K (a.put o.dst undef) (w.setRow g new)) : o.wp P a w K Q := by
  have := run_storeCells_at (P := P) g k t cells.toList 0 old w hg (by simpa using hl) (fun v hv => (Array.all_eq_true_iff_forall_mem.1 h1) v (by simpa using hv))
  simp only [Nat.add_zero, Array.length_toList] at this
  rw [hn] at this
  have hs : (storeVar ty ⟨g, k, none⟩ (.agg cells)).run P w = .ok () (w.setRow g new) := by
    cases hq : P.info? ty with
    | none => simp [hq] at hi
    | some i =>
      have hsz : cells.size = i.size := by simp [hq] at hi; omega
      simp [storeVar, sizeOf, typeInfo, hq, Value.cells, hsz, this]
  unfold Oper.wp execOp
  simp only [ho, hx, hy, Instr.storeAt, Instr.sureAddr, Sem.run_bind, Sem.run_pure, Result.andThen_ok, hs]
  exact h
set_option maxRecDepth 100000 in
set_option maxHeartbeats 6400000 in
theorem rrec_no (r o : Rc) (Y : Int) (w : World) (hT : Tab w) (B : r.Bd) (Bo : o.Bd) (h : r.ok = false) :
    Calls Tryd.prog 72 #[r.V, o.V, .int .i64 Y] w fun e w' => e = .returned (shRec r o Y).V ∧ Below w.heap.size w w' := by
  have i0 := Inv.start hT
  rw [show shRec r o Y = r by unfold shRec; rw [if_neg (fun q => by have := q.1; rw [h] at this; cases this)]]
  have hkr : ∀ w, Tab w → Calls Tryd.prog 25 #[r.V] w fun e w' => e = .returned (.int .i64 2) ∧ Below w.heap.size w w' := fun w hT => by
    have := Rf.rrc_any r.b r.c r.d r.p r.q w hT B; unfold rcE at this; rw [show rcOk r.b r.c r.d r.p r.q = false from h] at this; exact this
  go_enter Tryd.func72, Tryd.ntmps72
  go_wp2_with (first | refine wpList_row_g rfl 26 _ rfl _ rfl _ _ _ _ (((Wd.Blk.new w 26 (rcA r.b r.c r.d r.p r.q)).alloc (.cells (rcA o.b o.c o.d o.p o.q) 26)).alloc (.cells #[.int .i32 0, .int .i32 0, .int .i32 0, .int .u16 0, .int .u16 0, .int .u16 0, .int .u16 0, .int .u16 0, .int .u16 0, .int .u16 0, .int .u16 0, .int .u16 0, .int .u16 0, .int .u16 0, .int .u16 0, .int .u16 0, .int .u16 0, .int .u16 0, .int .u16 0] 26)) Tryd.underlying26 rfl (by kernel_rfl) ?_)
  have r_1 := (((Wd.Blk.new w 26 (rcA r.b r.c r.d r.p r.q)).alloc (.cells (rcA o.b o.c o.d o.p o.q) 26)).alloc (.cells #[.int .i32 0, .int .i32 0, .int .i32 0, .int .u16 0, .int .u16 0, .int .u16 0, .int .u16 0, .int .u16 0, .int .u16 0, .int .u16 0, .int .u16 0, .int .u16 0, .int .u16 0, .int .u16 0, .int .u16 0, .int .u16 0, .int .u16 0, .int .u16 0, .int .u16 0] 26))
  have o_1 := ((blk_at (w.alloc (.cells (rcA r.b r.c r.d r.p r.q) 26)) 26 (rcA o.b o.c o.d o.p o.q) (sz1 _ _ rfl)).alloc (.cells #[.int .i32 0, .int .i32 0, .int .i32 0, .int .u16 0, .int .u16 0, .int .u16 0, .int .u16 0, .int .u16 0, .int .u16 0, .int .u16 0, .int .u16 0, .int .u16 0, .int .u16 0, .int .u16 0, .int .u16 0, .int .u16 0, .int .u16 0, .int .u16 0, .int .u16 0] 26))
  have z_1 := (blk_at ((w.alloc (.cells (rcA r.b r.c r.d r.p r.q) 26)).alloc (.cells (rcA o.b o.c o.d o.p o.q) 26)) 26 #[.int .i32 0, .int .i32 0, .int .i32 0, .int .u16 0, .int .u16 0, .int .u16 0, .int .u16 0, .int .u16 0, .int .u16 0, .int .u16 0, .int .u16 0, .int .u16 0, .int .u16 0, .int .u16 0, .int .u16 0, .int .u16 0, .int .u16 0, .int .u16 0, .int .u16 0] (sz1 _ _ (sz1 _ _ rfl)))
  have inv_1 := (((i0.alloc (.cells (rcA r.b r.c r.d r.p r.q) 26)).alloc (.cells (rcA o.b o.c o.d o.p o.q) 26)).alloc (.cells #[.int .i32 0, .int .i32 0, .int .i32 0, .int .u16 0, .int .u16 0, .int .u16 0, .int .u16 0, .int .u16 0, .int .u16 0, .int .u16 0, .int .u16 0, .int .u16 0, .int .u16 0, .int .u16 0, .int .u16 0, .int .u16 0, .int .u16 0, .int .u16 0, .int .u16 0] 26))
  refine (hkr _ inv_1.1).mono ?_; rintro e w_1 ⟨rfl, hb_1⟩
  have rc_1 := r_1.below hb_1 r_1.lt
  have oc_1 := o_1.below hb_1 o_1.lt
  have zc_1 := z_1.below hb_1 z_1.lt
  have invc_1 := inv_1.call hb_1
  clear r_1 o_1 z_1 inv_1 hb_1
  have r_2 := rc_1
  have o_2 := oc_1
  have z_2 := zc_1
  have inv_2 := invc_1
  have rz : Blk w_1 (w.heap.size + 1 + 1) 26 #[.int .i32 0, .int .i32 0, .int .i32 0, .int .u16 0, .int .u16 0, .int .u16 0, .int .u16 0, .int .u16 0, .int .u16 0, .int .u16 0, .int .u16 0, .int .u16 0, .int .u16 0, .int .u16 0, .int .u16 0, .int .u16 0, .int .u16 0, .int .u16 0, .int .u16 0] := z_2
  go_wp2_with (first | refine wpList_row_g rfl 26 _ rfl _ rfl _ _ _ _ r_2 Tryd.underlying26 rfl (by kernel_rfl) ?_ | refine wpList_store_g rfl 26 _ _ rfl rfl (w.heap.size + 1 + 1) 0 (rcA r.b r.c r.d r.p r.q) (rcA r.b r.c r.d r.p r.q) rfl rfl _ _ rz (by show 0 + 19 ≤ 19; decide) (by kernel_rfl) (by kernel_rfl) (by kernel_rfl) ?_)
  exact bodyPost_ret (res_c rfl _ _ _ _ (rcA r.b r.c r.d r.p r.q) _ rfl (Blk.row rz _) Tryd.underlying26 rfl (by kernel_rfl)) rfl ⟨rfl, below_row inv_2.2 (by omega) _⟩
set_option maxRecDepth 100000 in
set_option maxHeartbeats 6400000 in
theorem rrec_not (r o : Rc) (Y : Int) (w : World) (hT : Tab w) (B : r.Bd) (Bo : o.Bd) (h : r.ok = true) (h2 : o.ok = false) :
    Calls Tryd.prog 72 #[r.V, o.V, .int .i64 Y] w fun e w' => e = .returned (shRec r o Y).V ∧ Below w.heap.size w w' := by
  have i0 := Inv.start hT
  rw [show shRec r o Y = r by unfold shRec; rw [if_neg (fun q => by have := q.2; rw [h2] at this; cases this)]]
  have hkr : ∀ w, Tab w → Calls Tryd.prog 25 #[r.V] w fun e w' => e = .returned (.int .i64 0) ∧ Below w.heap.size w w' := fun w hT => by
    have := Rf.rrc_any r.b r.c r.d r.p r.q w hT B; unfold rcE at this; rw [show rcOk r.b r.c r.d r.p r.q = true from h] at this; exact this
  have hko : ∀ w, Tab w → Calls Tryd.prog 25 #[o.V] w fun e w' => e = .returned (.int .i64 2) ∧ Below w.heap.size w w' := fun w hT => by
    have := Rf.rrc_any o.b o.c o.d o.p o.q w hT Bo; unfold rcE at this; rw [show rcOk o.b o.c o.d o.p o.q = false from h2] at this; exact this
  go_enter Tryd.func72, Tryd.ntmps72
  go_wp2_with (first | refine wpList_row_g rfl 26 _ rfl _ rfl _ _ _ _ (((Wd.Blk.new w 26 (rcA r.b r.c r.d r.p r.q)).alloc (.cells (rcA o.b o.c o.d o.p o.q) 26)).alloc (.cells #[.int .i32 0, .int .i32 0, .int .i32 0, .int .u16 0, .int .u16 0, .int .u16 0, .int .u16 0, .int .u16 0, .int .u16 0, .int .u16 0, .int .u16 0, .int .u16 0, .int .u16 0, .int .u16 0, .int .u16 0, .int .u16 0, .int .u16 0, .int .u16 0, .int .u16 0] 26)) Tryd.underlying26 rfl (by kernel_rfl) ?_)
  have r_1 := (((Wd.Blk.new w 26 (rcA r.b r.c r.d r.p r.q)).alloc (.cells (rcA o.b o.c o.d o.p o.q) 26)).alloc (.cells #[.int .i32 0, .int .i32 0, .int .i32 0, .int .u16 0, .int .u16 0, .int .u16 0, .int .u16 0, .int .u16 0, .int .u16 0, .int .u16 0, .int .u16 0, .int .u16 0, .int .u16 0, .int .u16 0, .int .u16 0, .int .u16 0, .int .u16 0, .int .u16 0, .int .u16 0] 26))
  have o_1 := ((blk_at (w.alloc (.cells (rcA r.b r.c r.d r.p r.q) 26)) 26 (rcA o.b o.c o.d o.p o.q) (sz1 _ _ rfl)).alloc (.cells #[.int .i32 0, .int .i32 0, .int .i32 0, .int .u16 0, .int .u16 0, .int .u16 0, .int .u16 0, .int .u16 0, .int .u16 0, .int .u16 0, .int .u16 0, .int .u16 0, .int .u16 0, .int .u16 0, .int .u16 0, .int .u16 0, .int .u16 0, .int .u16 0, .int .u16 0] 26))
  have z_1 := (blk_at ((w.alloc (.cells (rcA r.b r.c r.d r.p r.q) 26)).alloc (.cells (rcA o.b o.c o.d o.p o.q) 26)) 26 #[.int .i32 0, .int .i32 0, .int .i32 0, .int .u16 0, .int .u16 0, .int .u16 0, .int .u16 0, .int .u16 0, .int .u16 0, .int .u16 0, .int .u16 0, .int .u16 0, .int .u16 0, .int .u16 0, .int .u16 0, .int .u16 0, .int .u16 0, .int .u16 0, .int .u16 0] (sz1 _ _ (sz1 _ _ rfl)))
  have inv_1 := (((i0.alloc (.cells (rcA r.b r.c r.d r.p r.q) 26)).alloc (.cells (rcA o.b o.c o.d o.p o.q) 26)).alloc (.cells #[.int .i32 0, .int .i32 0, .int .i32 0, .int .u16 0, .int .u16 0, .int .u16 0, .int .u16 0, .int .u16 0, .int .u16 0, .int .u16 0, .int .u16 0, .int .u16 0, .int .u16 0, .int .u16 0, .int .u16 0, .int .u16 0, .int .u16 0, .int .u16 0, .int .u16 0] 26))
  refine (hkr _ inv_1.1).mono ?_; rintro e w_1 ⟨rfl, hb_1⟩
  have rc_1 := r_1.below hb_1 r_1.lt
  have oc_1 := o_1.below hb_1 o_1.lt
  have zc_1 := z_1.below hb_1 z_1.lt
  have invc_1 := inv_1.call hb_1
  clear r_1 o_1 z_1 inv_1 hb_1
  go_wp2_with (first | refine wpList_row_g rfl 26 _ rfl _ rfl _ _ _ _ oc_1 Tryd.underlying26 rfl (by kernel_rfl) ?_)
  have r_2 := rc_1
  have o_2 := oc_1
  have z_2 := zc_1
  have inv_2 := invc_1
  refine (hko _ inv_2.1).mono ?_; rintro e w_2 ⟨rfl, hb_2⟩
  have rc_2 := r_2.below hb_2 r_2.lt
  have oc_2 := o_2.below hb_2 o_2.lt
  have zc_2 := z_2.below hb_2 z_2.lt
  have invc_2 := inv_2.call hb_2
  clear r_2 o_2 z_2 inv_2 hb_2
  have r_3 := rc_2
  have o_3 := oc_2
  have z_3 := zc_2
  have inv_3 := invc_2
  have rz : Blk w_2 (w.heap.size + 1 + 1) 26 #[.int .i32 0, .int .i32 0, .int .i32 0, .int .u16 0, .int .u16 0, .int .u16 0, .int .u16 0, .int .u16 0, .int .u16 0, .int .u16 0, .int .u16 0, .int .u16 0, .int .u16 0, .int .u16 0, .int .u16 0, .int .u16 0, .int .u16 0, .int .u16 0, .int .u16 0] := z_3
  go_wp2_with (first | refine wpList_row_g rfl 26 _ rfl _ rfl _ _ _ _ r_3 Tryd.underlying26 rfl (by kernel_rfl) ?_ | refine wpList_store_g rfl 26 _ _ rfl rfl (w.heap.size + 1 + 1) 0 (rcA r.b r.c r.d r.p r.q) (rcA r.b r.c r.d r.p r.q) rfl rfl _ _ rz (by show 0 + 19 ≤ 19; decide) (by kernel_rfl) (by kernel_rfl) (by kernel_rfl) ?_)
  exact bodyPost_ret (res_c rfl _ _ _ _ (rcA r.b r.c r.d r.p r.q) _ rfl (Blk.row rz _) Tryd.underlying26 rfl (by kernel_rfl)) rfl ⟨rfl, below_row inv_3.2 (by omega) _⟩
attribute [local go_sem ↓] ldS_sem
attribute [local go_sem] ldSem_run
set_option maxRecDepth 100000 in
set_option maxHeartbeats 6400000 in
theorem rrec_yes (r o : Rc) (Y : Int) (w : World) (hT : Tab w) (B : r.Bd) (Bo : o.Bd) (h : r.ok = true) (h2 : o.ok = true) :
    Calls Tryd.prog 72 #[r.V, o.V, .int .i64 Y] w fun e w' => e = .returned (shRec r o Y).V ∧ Below w.heap.size w w' := by
  have i0 := Inv.start hT
  rw [show shRec r o Y = ⟨r.b, r.c, r.d, likeV r.p o.p Y, likeV r.q o.q Y⟩ by unfold shRec; rw [if_pos ⟨h, h2⟩]]
  have hkr : ∀ w, Tab w → Calls Tryd.prog 25 #[r.V] w fun e w' => e = .returned (.int .i64 0) ∧ Below w.heap.size w w' := fun w hT => by
    have := Rf.rrc_any r.b r.c r.d r.p r.q w hT B; unfold rcE at this; rw [show rcOk r.b r.c r.d r.p r.q = true from h] at this; exact this
  have hko : ∀ w, Tab w → Calls Tryd.prog 25 #[o.V] w fun e w' => e = .returned (.int .i64 0) ∧ Below w.heap.size w w' := fun w hT => by
    have := Rf.rrc_any o.b o.c o.d o.p o.q w hT Bo; unfold rcE at this; rw [show rcOk o.b o.c o.d o.p o.q = true from h2] at this; exact this
  have hlp := fun w hT => rlike_any r.p o.p Y w hT B.p Bo.p
  have hlq := fun w hT => rlike_any r.q o.q Y w hT B.q Bo.q
  obtain ⟨p1, ep⟩ : ∃ x, likeV r.p o.p Y = x := ⟨_, rfl⟩
  obtain ⟨q1, eq⟩ : ∃ x, likeV r.q o.q Y = x := ⟨_, rfl⟩
  rw [ep] at hlp; rw [eq] at hlq; rw [ep, eq]; clear ep eq
  go_enter Tryd.func72, Tryd.ntmps72
  go_wp2_with (first | refine wpList_row_g rfl 26 _ rfl _ rfl _ _ _ _ (((Wd.Blk.new w 26 (rcA r.b r.c r.d r.p r.q)).alloc (.cells (rcA o.b o.c o.d o.p o.q) 26)).alloc (.cells #[.int .i32 0, .int .i32 0, .int .i32 0, .int .u16 0, .int .u16 0, .int .u16 0, .int .u16 0, .int .u16 0, .int .u16 0, .int .u16 0, .int .u16 0, .int .u16 0, .int .u16 0, .int .u16 0, .int .u16 0, .int .u16 0, .int .u16 0, .int .u16 0, .int .u16 0] 26)) Tryd.underlying26 rfl (by kernel_rfl) ?_)
  have r_1 := (((Wd.Blk.new w 26 (rcA r.b r.c r.d r.p r.q)).alloc (.cells (rcA o.b o.c o.d o.p o.q) 26)).alloc (.cells #[.int .i32 0, .int .i32 0, .int .i32 0, .int .u16 0, .int .u16 0, .int .u16 0, .int .u16 0, .int .u16 0, .int .u16 0, .int .u16 0, .int .u16 0, .int .u16 0, .int .u16 0, .int .u16 0, .int .u16 0, .int .u16 0, .int .u16 0, .int .u16 0, .int .u16 0] 26))
  have o_1 := ((blk_at (w.alloc (.cells (rcA r.b r.c r.d r.p r.q) 26)) 26 (rcA o.b o.c o.d o.p o.q) (sz1 _ _ rfl)).alloc (.cells #[.int .i32 0, .int .i32 0, .int .i32 0, .int .u16 0, .int .u16 0, .int .u16 0, .int .u16 0, .int .u16 0, .int .u16 0, .int .u16 0, .int .u16 0, .int .u16 0, .int .u16 0, .int .u16 0, .int .u16 0, .int .u16 0, .int .u16 0, .int .u16 0, .int .u16 0] 26))
  have z_1 := (blk_at ((w.alloc (.cells (rcA r.b r.c r.d r.p r.q) 26)).alloc (.cells (rcA o.b o.c o.d o.p o.q) 26)) 26 #[.int .i32 0, .int .i32 0, .int .i32 0, .int .u16 0, .int .u16 0, .int .u16 0, .int .u16 0, .int .u16 0, .int .u16 0, .int .u16 0, .int .u16 0, .int .u16 0, .int .u16 0, .int .u16 0, .int .u16 0, .int .u16 0, .int .u16 0, .int .u16 0, .int .u16 0] (sz1 _ _ (sz1 _ _ rfl)))
  have inv_1 := (((i0.alloc (.cells (rcA r.b r.c r.d r.p r.q) 26)).alloc (.cells (rcA o.b o.c o.d o.p o.q) 26)).alloc (.cells #[.int .i32 0, .int .i32 0, .int .i32 0, .int .u16 0, .int .u16 0, .int .u16 0, .int .u16 0, .int .u16 0, .int .u16 0, .int .u16 0, .int .u16 0, .int .u16 0, .int .u16 0, .int .u16 0, .int .u16 0, .int .u16 0, .int .u16 0, .int .u16 0, .int .u16 0] 26))
  refine (hkr _ inv_1.1).mono ?_; rintro e w_1 ⟨rfl, hb_1⟩
  have rc_1 := r_1.below hb_1 r_1.lt
  have oc_1 := o_1.below hb_1 o_1.lt
  have zc_1 := z_1.below hb_1 z_1.lt
  have invc_1 := inv_1.call hb_1
  clear r_1 o_1 z_1 inv_1 hb_1
  go_wp2_with (first | refine wpList_row_g rfl 26 _ rfl _ rfl _ _ _ _ oc_1 Tryd.underlying26 rfl (by kernel_rfl) ?_)
  have r_2 := rc_1
  have o_2 := oc_1
  have z_2 := zc_1
  have inv_2 := invc_1
  refine (hko _ inv_2.1).mono ?_; rintro e w_2 ⟨rfl, hb_2⟩
  have rc_2 := r_2.below hb_2 r_2.lt
  have oc_2 := o_2.below hb_2 o_2.lt
  have zc_2 := z_2.below hb_2 z_2.lt
  have invc_2 := inv_2.call hb_2
  clear r_2 o_2 z_2 inv_2 hb_2
  have r_3 := rc_2
  have o_3 := oc_2
  have z_3 := zc_2
  have inv_3 := invc_2
  go_upto_region 3 with fail
  go_cut [21] (fun _ wx => Inv w wx ∧ Blk wx w.heap.size 26 (rcA r.b r.c r.d p1 q1) ∧ Blk wx (w.heap.size + 1 + 1) 26 #[.int .i32 0, .int .i32 0, .int .i32 0, .int .u16 0, .int .u16 0, .int .u16 0, .int .u16 0, .int .u16 0, .int .u16 0, .int .u16 0, .int .u16 0, .int .u16 0, .int .u16 0, .int .u16 0, .int .u16 0, .int .u16 0, .int .u16 0, .int .u16 0, .int .u16 0])
  case first =>
    have hr : Blk w_2.drew w.heap.size 26 (rcA r.b r.c r.d r.p r.q) := r_3
    have ZZ := Lib.hid (xk_mk inv_3.drew o_3 z_3); clear inv_3 r_3 o_3 z_3 i0
    refine wp_region_held_drew (S := fun w' => Inv w w' ∧ Blk w' (w.heap.size + 1) 26 (rcA o.b o.c o.d o.p o.q) ∧ Blk w' (w.heap.size + 1 + 1) 26 #[.int .i32 0, .int .i32 0, .int .i32 0, .int .u16 0, .int .u16 0, .int .u16 0, .int .u16 0, .int .u16 0, .int .u16 0, .int .u16 0, .int .u16 0, .int .u16 0, .int .u16 0, .int .u16 0, .int .u16 0, .int .u16 0, .int .u16 0, .int .u16 0, .int .u16 0] ∧ ldT 24 (.pointer (some ⟨w.heap.size + 1, 3, none⟩)) w' = some (sA o.p) ∧ ldT 24 (.pointer (some ⟨w.heap.size + 1, 11, none⟩)) w' = some (sA o.q)) (by kernel_rfl) (ZZ.out) (fun hHeld => ?_)
    refine wpAnyH_take (i := 0) (oi := { dst := some 16, op := Op.fieldAddr 26 (Operand.tmp 3) 3, type := 0, pos := "ref.go:48", after := #[], guard := none }) (v := ?_) rfl (by kernel_rfl) (by kernel_rfl) (by kernel_rfl) (fun _ _ _ h => h) (Or.inl ⟨by rfl, ?_⟩) hHeld ?_
    rotate_left
    · intro w hSw
      try dsimp only at hSw
      go_simp
      try with_reducible rfl
    try simp only [Act.put, List.setIfInBounds_toArray, List.set_cons_zero, List.set_cons_succ]
    refine wpAnyH_take (i := 2) (oi := { dst := some 18, op := Op.fieldAddr 26 (Operand.tmp 4) 3, type := 0, pos := "ref.go:48", after := #[], guard := none }) (v := ?_) rfl (by kernel_rfl) (by kernel_rfl) (by kernel_rfl) (fun _ _ _ h => h) (Or.inl ⟨by rfl, ?_⟩) hHeld ?_
    rotate_left
    · intro w hSw
      try dsimp only at hSw
      go_simp
      try with_reducible rfl
    try simp only [Act.put, List.setIfInBounds_toArray, List.set_cons_zero, List.set_cons_succ]
    refine wpAnyH_take (i := 3) (oi := { dst := some 19, op := Op.load 24 (Operand.tmp 18), type := 24, pos := "ref.go:48", after := #[{ on := 2, ground := Ground.data }], guard := none }) (v := ?_) rfl (by kernel_rfl) (by kernel_rfl) (by kernel_rfl) (fun _ _ _ h => h) (Or.inl ⟨by rfl, ?_⟩) hHeld ?_
    rotate_left
    · intro w hSw
      try dsimp only at hSw
      go_simp
      try with_reducible rfl
    try simp only [Act.put, List.setIfInBounds_toArray, List.set_cons_zero, List.set_cons_succ]
    refine wpAnyH_take (i := 4) (oi := { dst := some 20, op := Op.move (Operand.tmp 2), type := 3, pos := "ref.go:48", after := #[], guard := none }) (v := ?_) rfl (by kernel_rfl) (by kernel_rfl) (by kernel_rfl) (fun _ _ _ h => h) (Or.inl ⟨by rfl, ?_⟩) hHeld ?_
    rotate_left
    · intro w hSw
      try dsimp only at hSw
      go_simp
      try with_reducible rfl
    try simp only [Act.put, List.setIfInBounds_toArray, List.set_cons_zero, List.set_cons_succ]
    refine wpAnyH_take (i := 6) (oi := { dst := some 22, op := Op.fieldAddr 26 (Operand.tmp 3) 4, type := 0, pos := "ref.go:48", after := #[], guard := none }) (v := ?_) rfl (by kernel_rfl) (by kernel_rfl) (by kernel_rfl) (fun _ _ _ h => h) (Or.inl ⟨by rfl, ?_⟩) hHeld ?_
    rotate_left
    · intro w hSw
      try dsimp only at hSw
      go_simp
      try with_reducible rfl
    try simp only [Act.put, List.setIfInBounds_toArray, List.set_cons_zero, List.set_cons_succ]
    refine wpAnyH_take (i := 8) (oi := { dst := some 24, op := Op.fieldAddr 26 (Operand.tmp 4) 4, type := 0, pos := "ref.go:48", after := #[], guard := none }) (v := ?_) rfl (by kernel_rfl) (by kernel_rfl) (by kernel_rfl) (fun _ _ _ h => h) (Or.inl ⟨by rfl, ?_⟩) hHeld ?_
    rotate_left
    · intro w hSw
      try dsimp only at hSw
      go_simp
      try with_reducible rfl
    try simp only [Act.put, List.setIfInBounds_toArray, List.set_cons_zero, List.set_cons_succ]
    refine wpAnyH_take (i := 9) (oi := { dst := some 25, op := Op.load 24 (Operand.tmp 24), type := 24, pos := "ref.go:48", after := #[{ on := 8, ground := Ground.data }], guard := none }) (v := ?_) rfl (by kernel_rfl) (by kernel_rfl) (by kernel_rfl) (fun _ _ _ h => h) (Or.inl ⟨by rfl, ?_⟩) hHeld ?_
    rotate_left
    · intro w hSw
      try dsimp only at hSw
      go_simp
      try with_reducible rfl
    try simp only [Act.put, List.setIfInBounds_toArray, List.set_cons_zero, List.set_cons_succ]
    refine wpAnyH_take (i := 10) (oi := { dst := some 26, op := Op.move (Operand.tmp 2), type := 3, pos := "ref.go:48", after := #[], guard := none }) (v := ?_) rfl (by kernel_rfl) (by kernel_rfl) (by kernel_rfl) (fun _ _ _ h => h) (Or.inl ⟨by rfl, ?_⟩) hHeld ?_
    rotate_left
    · intro w hSw
      try dsimp only at hSw
      go_simp
      try with_reducible rfl
    try simp only [Act.put, List.setIfInBounds_toArray, List.set_cons_zero, List.set_cons_succ]
    refine wpAnyH_ready (rs := [1, 7]) (by kernel_rfl) (by simp) ?_
    refine AllReadyH.cons (o := { dst := some 17, op := Op.load 24 (Operand.tmp 16), type := 24, pos := "ref.go:48", after := #[{ on := 0, ground := Ground.data }], guard := none }) rfl (fun K hK => ?_) (AllReadyH.cons (o := { dst := some 23, op := Op.load 24 (Operand.tmp 22), type := 24, pos := "ref.go:48", after := #[{ on := 6, ground := Ground.data }], guard := none }) rfl (fun K hK => ?_) (AllReadyH.nil))
    · skip
      rw [if_pos (by rfl)]
      refine wp_ld 24 (.tmp 16) rfl _ (sA r.p) rfl (ld_seg (k := 3) hr Tryd.underlying24 rfl (by kernel_rfl) (by kernel_rfl)) ?_
      refine hK.out _ _ (hHeld) (fun hHeld2 => ?_)
      clear hK K hHeld; have hHeld := hHeld2; clear hHeld2
      try simp only [Act.put, List.setIfInBounds_toArray, List.set_cons_zero, List.set_cons_succ]
      refine wpAnyH_ready (rs := [5, 7]) (by kernel_rfl) (by simp) ?_
      refine AllReadyH.cons (o := { dst := some 21, op := Op.call { callee := Callee.value (Operand.func 70), args := #[Operand.tmp 17, Operand.tmp 19, Operand.tmp 20], argTypes := #[24, 24, 3] }, type := 24, pos := "ref.go:48", after := #[{ on := 1, ground := Ground.data }, { on := 3, ground := Ground.data }, { on := 4, ground := Ground.data }], guard := none }) rfl (fun K hK => ?_) (AllReadyH.cons (o := { dst := some 23, op := Op.load 24 (Operand.tmp 22), type := 24, pos := "ref.go:48", after := #[{ on := 6, ground := Ground.data }], guard := none }) rfl (fun K hK => ?_) (AllReadyH.nil))
      · skip
        go_simp
        refine (hlp _ hHeld.1.1).mono ?_; rintro e w_2 ⟨rfl, hb_2⟩
        have hr_2 := hr.below hb_2 hr.lt
        try go_wp2_with fail
        refine hK.out _ _ (xk_on hHeld hb_2) (fun hHeld2 => ?_)
        clear hK K hHeld; have hHeld := hHeld2; clear hHeld2
        try simp only [Act.put, List.setIfInBounds_toArray, List.set_cons_zero, List.set_cons_succ]
        refine wpAnyH_ready (rs := [7]) (by kernel_rfl) (by simp) ?_
        refine AllReadyH.cons (o := { dst := some 23, op := Op.load 24 (Operand.tmp 22), type := 24, pos := "ref.go:48", after := #[{ on := 6, ground := Ground.data }], guard := none }) rfl (fun K hK => ?_) (AllReadyH.nil)
        rw [if_pos (by rfl)]
        refine wp_ld 24 (.tmp 22) rfl _ (sA r.q) rfl (ld_seg (k := 11) hr_2 Tryd.underlying24 rfl (by kernel_rfl) (by kernel_rfl)) ?_
        refine hK.out _ _ (hHeld) (fun hHeld2 => ?_)
        clear hK K hHeld; have hHeld := hHeld2; clear hHeld2
        try simp only [Act.put, List.setIfInBounds_toArray, List.set_cons_zero, List.set_cons_succ]
        refine wpAnyH_take (i := 12) (oi := { dst := some 28, op := Op.fieldAddr 26 (Operand.tmp 3) 3, type := 0, pos := "ref.go:48", after := #[{ on := 0, ground := Ground.phase }, { on := 1, ground := Ground.phase }, { on := 2, ground := Ground.phase }, { on := 3, ground := Ground.phase }, { on := 4, ground := Ground.phase }, { on := 5, ground := Ground.phase }, { on := 6, ground := Ground.phase }, { on := 7, ground := Ground.phase }, { on := 8, ground := Ground.textOnly Departure.lateStores }, { on := 9, ground := Ground.textOnly Departure.lateStores }, { on := 10, ground := Ground.textOnly Departure.lateStores }, { on := 11, ground := Ground.textOnly Departure.lateStoresUnsure }], guard := none }) (v := ?_) rfl (by kernel_rfl) (by kernel_rfl) (by kernel_rfl) (fun _ _ _ h => h) (Or.inl ⟨by rfl, ?_⟩) hHeld ?_
        rotate_left
        · intro w hSw
          try dsimp only at hSw
          go_simp
          try with_reducible rfl
        try simp only [Act.put, List.setIfInBounds_toArray, List.set_cons_zero, List.set_cons_succ]
        refine wpAnyH_ready (rs := [11]) (by kernel_rfl) (by simp) ?_
        refine AllReadyH.cons (o := { dst := some 27, op := Op.call { callee := Callee.value (Operand.func 70), args := #[Operand.tmp 23, Operand.tmp 25, Operand.tmp 26], argTypes := #[24, 24, 3] }, type := 24, pos := "ref.go:48", after := #[{ on := 7, ground := Ground.data }, { on := 9, ground := Ground.data }, { on := 10, ground := Ground.data }, { on := 5, ground := Ground.chain }], guard := none }) rfl (fun K hK => ?_) (AllReadyH.nil)
        go_simp
        refine (hlq _ hHeld.1.1).mono ?_; rintro e w_4 ⟨rfl, hb_4⟩
        have hr_4 := hr_2.below hb_4 hr_2.lt
        try go_wp2_with fail
        refine hK.out _ _ (xk_on hHeld hb_4) (fun hHeld2 => ?_)
        clear hK K hHeld; have hHeld := hHeld2; clear hHeld2
        try simp only [Act.put, List.setIfInBounds_toArray, List.set_cons_zero, List.set_cons_succ]
        refine wpAnyH_ready (rs := [13]) (by kernel_rfl) (by simp) ?_
        refine AllReadyH.cons (o := { dst := none, op := Op.store 24 (Operand.tmp 28) (Operand.tmp 21), type := 0, pos := "ref.go:48", after := #[{ on := 12, ground := Ground.data }, { on := 5, ground := Ground.data }, { on := 11, ground := Ground.chain }, { on := 0, ground := Ground.phase }, { on := 1, ground := Ground.phase }, { on := 2, ground := Ground.phase }, { on := 3, ground := Ground.phase }, { on := 4, ground := Ground.phase }, { on := 5, ground := Ground.phase }, { on := 6, ground := Ground.phase }, { on := 7, ground := Ground.phase }, { on := 8, ground := Ground.textOnly Departure.lateStores }, { on := 9, ground := Ground.textOnly Departure.lateStores }, { on := 10, ground := Ground.textOnly Departure.lateStores }, { on := 11, ground := Ground.textOnly Departure.lateStoresUnsure }], guard := none }) rfl (fun K hK => ?_) (AllReadyH.nil)
        rw [if_pos (by rfl)]
        refine wp_store_g 24 (.tmp 28) (.tmp 21) rfl rfl w.heap.size 3 (sA p1) (rcA r.b r.c r.d p1 r.q) rfl rfl _ _ hr_4 (by show 3 + 8 ≤ 19; decide) (by kernel_rfl) (by kernel_rfl) (by kernel_rfl) ?_
        have hr_5 := Blk.row hr_4 (rcA r.b r.c r.d p1 r.q)
        refine hK.out _ _ (xk_st hT (rcA r.b r.c r.d p1 r.q) hHeld) (fun hHeld2 => ?_)
        clear hK K hHeld; have hHeld := hHeld2; clear hHeld2
        try simp only [Act.put, List.setIfInBounds_toArray, List.set_cons_zero, List.set_cons_succ]
        refine wpAnyH_take (i := 14) (oi := { dst := some 29, op := Op.fieldAddr 26 (Operand.tmp 3) 4, type := 0, pos := "ref.go:48", after := #[{ on := 0, ground := Ground.phase }, { on := 1, ground := Ground.phase }, { on := 2, ground := Ground.phase }, { on := 3, ground := Ground.phase }, { on := 4, ground := Ground.phase }, { on := 5, ground := Ground.phase }, { on := 6, ground := Ground.phase }, { on := 7, ground := Ground.phase }, { on := 8, ground := Ground.phase }, { on := 9, ground := Ground.phase }, { on := 10, ground := Ground.phase }, { on := 11, ground := Ground.phase }, { on := 12, ground := Ground.phase }, { on := 13, ground := Ground.phase }], guard := none }) (v := ?_) rfl (by kernel_rfl) (by kernel_rfl) (by kernel_rfl) (fun _ _ _ h => h) (Or.inl ⟨by rfl, ?_⟩) hHeld ?_
        rotate_left
        · intro w hSw
          try dsimp only at hSw
          go_simp
          try with_reducible rfl
        try simp only [Act.put, List.setIfInBounds_toArray, List.set_cons_zero, List.set_cons_succ]
        refine wpAnyH_ready (rs := [15]) (by kernel_rfl) (by simp) ?_
        refine AllReadyH.cons (o := { dst := none, op := Op.store 24 (Operand.tmp 29) (Operand.tmp 27), type := 0, pos := "ref.go:48", after := #[{ on := 14, ground := Ground.data }, { on := 11, ground := Ground.data }, { on := 13, ground := Ground.chain }, { on := 0, ground := Ground.phase }, { on := 1, ground := Ground.phase }, { on := 2, ground := Ground.phase }, { on := 3, ground := Ground.phase }, { on := 4, ground := Ground.phase }, { on := 5, ground := Ground.phase }, { on := 6, ground := Ground.phase }, { on := 7, ground := Ground.phase }, { on := 8, ground := Ground.phase }, { on := 9, ground := Ground.phase }, { on := 10, ground := Ground.phase }, { on := 11, ground := Ground.phase }, { on := 12, ground := Ground.phase }, { on := 13, ground := Ground.phase }], guard := none }) rfl (fun K hK => ?_) (AllReadyH.nil)
        rw [if_pos (by rfl)]
        refine wp_store_g 24 (.tmp 29) (.tmp 27) rfl rfl w.heap.size 11 (sA q1) (rcA r.b r.c r.d p1 q1) rfl rfl _ _ hr_5 (by show 11 + 8 ≤ 19; decide) (by kernel_rfl) (by kernel_rfl) (by kernel_rfl) ?_
        have hr_6 := Blk.row hr_5 (rcA r.b r.c r.d p1 q1)
        refine hK.out _ _ (xk_st hT (rcA r.b r.c r.d p1 q1) hHeld) (fun hHeld2 => ?_)
        clear hK K hHeld; have hHeld := hHeld2; clear hHeld2
        try simp only [Act.put, List.setIfInBounds_toArray, List.set_cons_zero, List.set_cons_succ]
        refine wpAnyH_done (by kernel_rfl) ?_ _
        obtain ⟨jv, _, jz, _⟩ := hHeld
        go_wp2_with fail
        go_meet
        exact ⟨jv, hr_6, jz⟩
      · skip
        rw [if_pos (by rfl)]
        refine wp_ld 24 (.tmp 22) rfl _ (sA r.q) rfl (ld_seg (k := 11) hr Tryd.underlying24 rfl (by kernel_rfl) (by kernel_rfl)) ?_
        refine hK.out _ _ (hHeld) (fun hHeld2 => ?_)
        clear hK K hHeld; have hHeld := hHeld2; clear hHeld2
        try simp only [Act.put, List.setIfInBounds_toArray, List.set_cons_zero, List.set_cons_succ]
        refine wpAnyH_ready (rs := [5]) (by kernel_rfl) (by simp) ?_
        refine AllReadyH.cons (o := { dst := some 21, op := Op.call { callee := Callee.value (Operand.func 70), args := #[Operand.tmp 17, Operand.tmp 19, Operand.tmp 20], argTypes := #[24, 24, 3] }, type := 24, pos := "ref.go:48", after := #[{ on := 1, ground := Ground.data }, { on := 3, ground := Ground.data }, { on := 4, ground := Ground.data }], guard := none }) rfl (fun K hK => ?_) (AllReadyH.nil)
        go_simp
        refine (hlp _ hHeld.1.1).mono ?_; rintro e w_8 ⟨rfl, hb_8⟩
        have hr_8 := hr.below hb_8 hr.lt
        try go_wp2_with fail
        refine hK.out _ _ (xk_on hHeld hb_8) (fun hHeld2 => ?_)
        clear hK K hHeld; have hHeld := hHeld2; clear hHeld2
        try simp only [Act.put, List.setIfInBounds_toArray, List.set_cons_zero, List.set_cons_succ]
        refine wpAnyH_take (i := 12) (oi := { dst := some 28, op := Op.fieldAddr 26 (Operand.tmp 3) 3, type := 0, pos := "ref.go:48", after := #[{ on := 0, ground := Ground.phase }, { on := 1, ground := Ground.phase }, { on := 2, ground := Ground.phase }, { on := 3, ground := Ground.phase }, { on := 4, ground := Ground.phase }, { on := 5, ground := Ground.phase }, { on := 6, ground := Ground.phase }, { on := 7, ground := Ground.phase }, { on := 8, ground := Ground.textOnly Departure.lateStores }, { on := 9, ground := Ground.textOnly Departure.lateStores }, { on := 10, ground := Ground.textOnly Departure.lateStores }, { on := 11, ground := Ground.textOnly Departure.lateStoresUnsure }], guard := none }) (v := ?_) rfl (by kernel_rfl) (by kernel_rfl) (by kernel_rfl) (fun _ _ _ h => h) (Or.inl ⟨by rfl, ?_⟩) hHeld ?_
        rotate_left
        · intro w hSw
          try dsimp only at hSw
          go_simp
          try with_reducible rfl
        try simp only [Act.put, List.setIfInBounds_toArray, List.set_cons_zero, List.set_cons_succ]
        refine wpAnyH_ready (rs := [11]) (by kernel_rfl) (by simp) ?_
        refine AllReadyH.cons (o := { dst := some 27, op := Op.call { callee := Callee.value (Operand.func 70), args := #[Operand.tmp 23, Operand.tmp 25, Operand.tmp 26], argTypes := #[24, 24, 3] }, type := 24, pos := "ref.go:48", after := #[{ on := 7, ground := Ground.data }, { on := 9, ground := Ground.data }, { on := 10, ground := Ground.data }, { on := 5, ground := Ground.chain }], guard := none }) rfl (fun K hK => ?_) (AllReadyH.nil)
        go_simp
        refine (hlq _ hHeld.1.1).mono ?_; rintro e w_9 ⟨rfl, hb_9⟩
        have hr_9 := hr_8.below hb_9 hr_8.lt
        try go_wp2_with fail
        refine hK.out _ _ (xk_on hHeld hb_9) (fun hHeld2 => ?_)
        clear hK K hHeld; have hHeld := hHeld2; clear hHeld2
        try simp only [Act.put, List.setIfInBounds_toArray, List.set_cons_zero, List.set_cons_succ]
        refine wpAnyH_ready (rs := [13]) (by kernel_rfl) (by simp) ?_
        refine AllReadyH.cons (o := { dst := none, op := Op.store 24 (Operand.tmp 28) (Operand.tmp 21), type := 0, pos := "ref.go:48", after := #[{ on := 12, ground := Ground.data }, { on := 5, ground := Ground.data }, { on := 11, ground := Ground.chain }, { on := 0, ground := Ground.phase }, { on := 1, ground := Ground.phase }, { on := 2, ground := Ground.phase }, { on := 3, ground := Ground.phase }, { on := 4, ground := Ground.phase }, { on := 5, ground := Ground.phase }, { on := 6, ground := Ground.phase }, { on := 7, ground := Ground.phase }, { on := 8, ground := Ground.textOnly Departure.lateStores }, { on := 9, ground := Ground.textOnly Departure.lateStores }, { on := 10, ground := Ground.textOnly Departure.lateStores }, { on := 11, ground := Ground.textOnly Departure.lateStoresUnsure }], guard := none }) rfl (fun K hK => ?_) (AllReadyH.nil)
        rw [if_pos (by rfl)]
        refine wp_store_g 24 (.tmp 28) (.tmp 21) rfl rfl w.heap.size 3 (sA p1) (rcA r.b r.c r.d p1 r.q) rfl rfl _ _ hr_9 (by show 3 + 8 ≤ 19; decide) (by kernel_rfl) (by kernel_rfl) (by kernel_rfl) ?_
        have hr_10 := Blk.row hr_9 (rcA r.b r.c r.d p1 r.q)
        refine hK.out _ _ (xk_st hT (rcA r.b r.c r.d p1 r.q) hHeld) (fun hHeld2 => ?_)
        clear hK K hHeld; have hHeld := hHeld2; clear hHeld2
        try simp only [Act.put, List.setIfInBounds_toArray, List.set_cons_zero, List.set_cons_succ]
        refine wpAnyH_take (i := 14) (oi := { dst := some 29, op := Op.fieldAddr 26 (Operand.tmp 3) 4, type := 0, pos := "ref.go:48", after := #[{ on := 0, ground := Ground.phase }, { on := 1, ground := Ground.phase }, { on := 2, ground := Ground.phase }, { on := 3, ground := Ground.phase }, { on := 4, ground := Ground.phase }, { on := 5, ground := Ground.phase }, { on := 6, ground := Ground.phase }, { on := 7, ground := Ground.phase }, { on := 8, ground := Ground.phase }, { on := 9, ground := Ground.phase }, { on := 10, ground := Ground.phase }, { on := 11, ground := Ground.phase }, { on := 12, ground := Ground.phase }, { on := 13, ground := Ground.phase }], guard := none }) (v := ?_) rfl (by kernel_rfl) (by kernel_rfl) (by kernel_rfl) (fun _ _ _ h => h) (Or.inl ⟨by rfl, ?_⟩) hHeld ?_
        rotate_left
        · intro w hSw
          try dsimp only at hSw
          go_simp
          try with_reducible rfl
        try simp only [Act.put, List.setIfInBounds_toArray, List.set_cons_zero, List.set_cons_succ]
        refine wpAnyH_ready (rs := [15]) (by kernel_rfl) (by simp) ?_
        refine AllReadyH.cons (o := { dst := none, op := Op.store 24 (Operand.tmp 29) (Operand.tmp 27), type := 0, pos := "ref.go:48", after := #[{ on := 14, ground := Ground.data }, { on := 11, ground := Ground.data }, { on := 13, ground := Ground.chain }, { on := 0, ground := Ground.phase }, { on := 1, ground := Ground.phase }, { on := 2, ground := Ground.phase }, { on := 3, ground := Ground.phase }, { on := 4, ground := Ground.phase }, { on := 5, ground := Ground.phase }, { on := 6, ground := Ground.phase }, { on := 7, ground := Ground.phase }, { on := 8, ground := Ground.phase }, { on := 9, ground := Ground.phase }, { on := 10, ground := Ground.phase }, { on := 11, ground := Ground.phase }, { on := 12, ground := Ground.phase }, { on := 13, ground := Ground.phase }], guard := none }) rfl (fun K hK => ?_) (AllReadyH.nil)
        rw [if_pos (by rfl)]
        refine wp_store_g 24 (.tmp 29) (.tmp 27) rfl rfl w.heap.size 11 (sA q1) (rcA r.b r.c r.d p1 q1) rfl rfl _ _ hr_10 (by show 11 + 8 ≤ 19; decide) (by kernel_rfl) (by kernel_rfl) (by kernel_rfl) ?_
        have hr_11 := Blk.row hr_10 (rcA r.b r.c r.d p1 q1)
        refine hK.out _ _ (xk_st hT (rcA r.b r.c r.d p1 q1) hHeld) (fun hHeld2 => ?_)
        clear hK K hHeld; have hHeld := hHeld2; clear hHeld2
        try simp only [Act.put, List.setIfInBounds_toArray, List.set_cons_zero, List.set_cons_succ]
        refine wpAnyH_done (by kernel_rfl) ?_ _
        obtain ⟨jv, _, jz, _⟩ := hHeld
        go_wp2_with fail
        go_meet
        exact ⟨jv, hr_11, jz⟩
    · skip
      rw [if_pos (by rfl)]
      refine wp_ld 24 (.tmp 22) rfl _ (sA r.q) rfl (ld_seg (k := 11) hr Tryd.underlying24 rfl (by kernel_rfl) (by kernel_rfl)) ?_
      refine hK.out _ _ (hHeld) (fun hHeld2 => ?_)
      clear hK K hHeld; have hHeld := hHeld2; clear hHeld2
      try simp only [Act.put, List.setIfInBounds_toArray, List.set_cons_zero, List.set_cons_succ]
      refine wpAnyH_ready (rs := [1]) (by kernel_rfl) (by simp) ?_
      refine AllReadyH.cons (o := { dst := some 17, op := Op.load 24 (Operand.tmp 16), type := 24, pos := "ref.go:48", after := #[{ on := 0, ground := Ground.data }], guard := none }) rfl (fun K hK => ?_) (AllReadyH.nil)
      rw [if_pos (by rfl)]
      refine wp_ld 24 (.tmp 16) rfl _ (sA r.p) rfl (ld_seg (k := 3) hr Tryd.underlying24 rfl (by kernel_rfl) (by kernel_rfl)) ?_
      refine hK.out _ _ (hHeld) (fun hHeld2 => ?_)
      clear hK K hHeld; have hHeld := hHeld2; clear hHeld2
      try simp only [Act.put, List.setIfInBounds_toArray, List.set_cons_zero, List.set_cons_succ]
      refine wpAnyH_ready (rs := [5]) (by kernel_rfl) (by simp) ?_
      refine AllReadyH.cons (o := { dst := some 21, op := Op.call { callee := Callee.value (Operand.func 70), args := #[Operand.tmp 17, Operand.tmp 19, Operand.tmp 20], argTypes := #[24, 24, 3] }, type := 24, pos := "ref.go:48", after := #[{ on := 1, ground := Ground.data }, { on := 3, ground := Ground.data }, { on := 4, ground := Ground.data }], guard := none }) rfl (fun K hK => ?_) (AllReadyH.nil)
      go_simp
      refine (hlp _ hHeld.1.1).mono ?_; rintro e w_14 ⟨rfl, hb_14⟩
      have hr_14 := hr.below hb_14 hr.lt
      try go_wp2_with fail
      refine hK.out _ _ (xk_on hHeld hb_14) (fun hHeld2 => ?_)
      clear hK K hHeld; have hHeld := hHeld2; clear hHeld2
      try simp only [Act.put, List.setIfInBounds_toArray, List.set_cons_zero, List.set_cons_succ]
      refine wpAnyH_take (i := 12) (oi := { dst := some 28, op := Op.fieldAddr 26 (Operand.tmp 3) 3, type := 0, pos := "ref.go:48", after := #[{ on := 0, ground := Ground.phase }, { on := 1, ground := Ground.phase }, { on := 2, ground := Ground.phase }, { on := 3, ground := Ground.phase }, { on := 4, ground := Ground.phase }, { on := 5, ground := Ground.phase }, { on := 6, ground := Ground.phase }, { on := 7, ground := Ground.phase }, { on := 8, ground := Ground.textOnly Departure.lateStores }, { on := 9, ground := Ground.textOnly Departure.lateStores }, { on := 10, ground := Ground.textOnly Departure.lateStores }, { on := 11, ground := Ground.textOnly Departure.lateStoresUnsure }], guard := none }) (v := ?_) rfl (by kernel_rfl) (by kernel_rfl) (by kernel_rfl) (fun _ _ _ h => h) (Or.inl ⟨by rfl, ?_⟩) hHeld ?_
      rotate_left
      · intro w hSw
        try dsimp only at hSw
        go_simp
        try with_reducible rfl
      try simp only [Act.put, List.setIfInBounds_toArray, List.set_cons_zero, List.set_cons_succ]
      refine wpAnyH_ready (rs := [11]) (by kernel_rfl) (by simp) ?_
      refine AllReadyH.cons (o := { dst := some 27, op := Op.call { callee := Callee.value (Operand.func 70), args := #[Operand.tmp 23, Operand.tmp 25, Operand.tmp 26], argTypes := #[24, 24, 3] }, type := 24, pos := "ref.go:48", after := #[{ on := 7, ground := Ground.data }, { on := 9, ground := Ground.data }, { on := 10, ground := Ground.data }, { on := 5, ground := Ground.chain }], guard := none }) rfl (fun K hK => ?_) (AllReadyH.nil)
      go_simp
      refine (hlq _ hHeld.1.1).mono ?_; rintro e w_15 ⟨rfl, hb_15⟩
      have hr_15 := hr_14.below hb_15 hr_14.lt
      try go_wp2_with fail
      refine hK.out _ _ (xk_on hHeld hb_15) (fun hHeld2 => ?_)
      clear hK K hHeld; have hHeld := hHeld2; clear hHeld2
      try simp only [Act.put, List.setIfInBounds_toArray, List.set_cons_zero, List.set_cons_succ]
      refine wpAnyH_ready (rs := [13]) (by kernel_rfl) (by simp) ?_
      refine AllReadyH.cons (o := { dst := none, op := Op.store 24 (Operand.tmp 28) (Operand.tmp 21), type := 0, pos := "ref.go:48", after := #[{ on := 12, ground := Ground.data }, { on := 5, ground := Ground.data }, { on := 11, ground := Ground.chain }, { on := 0, ground := Ground.phase }, { on := 1, ground := Ground.phase }, { on := 2, ground := Ground.phase }, { on := 3, ground := Ground.phase }, { on := 4, ground := Ground.phase }, { on := 5, ground := Ground.phase }, { on := 6, ground := Ground.phase }, { on := 7, ground := Ground.phase }, { on := 8, ground := Ground.textOnly Departure.lateStores }, { on := 9, ground := Ground.textOnly Departure.lateStores }, { on := 10, ground := Ground.textOnly Departure.lateStores }, { on := 11, ground := Ground.textOnly Departure.lateStoresUnsure }], guard := none }) rfl (fun K hK => ?_) (AllReadyH.nil)
      rw [if_pos (by rfl)]
      refine wp_store_g 24 (.tmp 28) (.tmp 21) rfl rfl w.heap.size 3 (sA p1) (rcA r.b r.c r.d p1 r.q) rfl rfl _ _ hr_15 (by show 3 + 8 ≤ 19; decide) (by kernel_rfl) (by kernel_rfl) (by kernel_rfl) ?_
      have hr_16 := Blk.row hr_15 (rcA r.b r.c r.d p1 r.q)
      refine hK.out _ _ (xk_st hT (rcA r.b r.c r.d p1 r.q) hHeld) (fun hHeld2 => ?_)
      clear hK K hHeld; have hHeld := hHeld2; clear hHeld2
      try simp only [Act.put, List.setIfInBounds_toArray, List.set_cons_zero, List.set_cons_succ]
      refine wpAnyH_take (i := 14) (oi := { dst := some 29, op := Op.fieldAddr 26 (Operand.tmp 3) 4, type := 0, pos := "ref.go:48", after := #[{ on := 0, ground := Ground.phase }, { on := 1, ground := Ground.phase }, { on := 2, ground := Ground.phase }, { on := 3, ground := Ground.phase }, { on := 4, ground := Ground.phase }, { on := 5, ground := Ground.phase }, { on := 6, ground := Ground.phase }, { on := 7, ground := Ground.phase }, { on := 8, ground := Ground.phase }, { on := 9, ground := Ground.phase }, { on := 10, ground := Ground.phase }, { on := 11, ground := Ground.phase }, { on := 12, ground := Ground.phase }, { on := 13, ground := Ground.phase }], guard := none }) (v := ?_) rfl (by kernel_rfl) (by kernel_rfl) (by kernel_rfl) (fun _ _ _ h => h) (Or.inl ⟨by rfl, ?_⟩) hHeld ?_
      rotate_left
      · intro w hSw
        try dsimp only at hSw
        go_simp
        try with_reducible rfl
      try simp only [Act.put, List.setIfInBounds_toArray, List.set_cons_zero, List.set_cons_succ]
      refine wpAnyH_ready (rs := [15]) (by kernel_rfl) (by simp) ?_
      refine AllReadyH.cons (o := { dst := none, op := Op.store 24 (Operand.tmp 29) (Operand.tmp 27), type := 0, pos := "ref.go:48", after := #[{ on := 14, ground := Ground.data }, { on := 11, ground := Ground.data }, { on := 13, ground := Ground.chain }, { on := 0, ground := Ground.phase }, { on := 1, ground := Ground.phase }, { on := 2, ground := Ground.phase }, { on := 3, ground := Ground.phase }, { on := 4, ground := Ground.phase }, { on := 5, ground := Ground.phase }, { on := 6, ground := Ground.phase }, { on := 7, ground := Ground.phase }, { on := 8, ground := Ground.phase }, { on := 9, ground := Ground.phase }, { on := 10, ground := Ground.phase }, { on := 11, ground := Ground.phase }, { on := 12, ground := Ground.phase }, { on := 13, ground := Ground.phase }], guard := none }) rfl (fun K hK => ?_) (AllReadyH.nil)
      rw [if_pos (by rfl)]
      refine wp_store_g 24 (.tmp 29) (.tmp 27) rfl rfl w.heap.size 11 (sA q1) (rcA r.b r.c r.d p1 q1) rfl rfl _ _ hr_16 (by show 11 + 8 ≤ 19; decide) (by kernel_rfl) (by kernel_rfl) (by kernel_rfl) ?_
      have hr_17 := Blk.row hr_16 (rcA r.b r.c r.d p1 q1)
      refine hK.out _ _ (xk_st hT (rcA r.b r.c r.d p1 q1) hHeld) (fun hHeld2 => ?_)
      clear hK K hHeld; have hHeld := hHeld2; clear hHeld2
      try simp only [Act.put, List.setIfInBounds_toArray, List.set_cons_zero, List.set_cons_succ]
      refine wpAnyH_done (by kernel_rfl) ?_ _
      obtain ⟨jv, _, jz, _⟩ := hHeld
      go_wp2_with fail
      go_meet
      exact ⟨jv, hr_17, jz⟩
  case rest =>
    clear inv_3 r_3 o_3 z_3 i0
    obtain ⟨jv, jr, jz⟩ := hcut
    have rz : Blk wc (w.heap.size + 1 + 1) 26 #[.int .i32 0, .int .i32 0, .int .i32 0, .int .u16 0, .int .u16 0, .int .u16 0, .int .u16 0, .int .u16 0, .int .u16 0, .int .u16 0, .int .u16 0, .int .u16 0, .int .u16 0, .int .u16 0, .int .u16 0, .int .u16 0, .int .u16 0, .int .u16 0, .int .u16 0] := jz
    go_wp2_with (first | refine wpList_row_g rfl 26 _ rfl _ rfl _ _ _ _ jr Tryd.underlying26 rfl (by kernel_rfl) ?_ | refine wpList_store_g rfl 26 _ _ rfl rfl (w.heap.size + 1 + 1) 0 (rcA r.b r.c r.d p1 q1) (rcA r.b r.c r.d p1 q1) rfl rfl _ _ rz (by show 0 + 19 ≤ 19; decide) (by kernel_rfl) (by kernel_rfl) (by kernel_rfl) ?_)
    exact bodyPost_ret (res_c rfl _ _ _ _ (rcA r.b r.c r.d p1 q1) _ rfl (Blk.row rz _) Tryd.underlying26 rfl (by kernel_rfl)) rfl ⟨rfl, below_row jv.2 (by omega) _⟩
theorem rrec_any (r o : Rc) (Y : Int) (w : World) (hT : Tab w) (B : r.Bd) (Bo : o.Bd) :
    Calls Tryd.prog 72 #[r.V, o.V, .int .i64 Y] w fun e w' => e = .returned (shRec r o Y).V ∧ Below w.heap.size w w' := by
  cases h : r.ok with
  | false => exact rrec_no r o Y w hT B Bo h
  | true =>
    cases h2 : o.ok with
    | false => exact rrec_not r o Y w hT B Bo h h2
    | true => exact rrec_yes r o Y w hT B Bo h h2
end Go.Proofs.YtefcjccapekjdaaDoor.Sh
