/-
  SHAPES: shape.Like and shape.Record, walked.
-/
import Derived.Test.YtefcjccapekjdaaDoorShM
import Derived.Test.YtefcjccapekjdaaDoorSp
import Derived.Test.YtefcjccapekjdaaDoorQc
namespace Go.Proofs.YtefcjccapekjdaaDoor.Sh
open Go.ChangeShapes Go.WideShapes Go.ChangeAt Go.RowKit
open Go.Proofs.YtefcjccapekjdaaDoor
open Go.Proofs.YtefcjccapekjdaaDoor.Wd
open Go.Proofs.YtefcjccapekjdaaDoor.Rec
open Go.Proofs.YtefcjccapekjdaaDoor.Yr
open Go.Proofs.YtefcjccapekjdaaDoor.Tb
open Go.Proofs.YtefcjccapekjdaaDoor.Civ (Tab Inv)
set_option linter.unusedVariables false
set_option linter.unusedSimpArgs false
def aggT : TypeDesc → Bool
  | .struct _ => true
  | .array _ _ => true
  | _ => false
/-- what a function answers whose result is a struct in a block -/
theorem res_c {fn : Func} {p : Tmp} {T : TypeId} (h : fn.results = #[.cell p T]) (tmps : Array Value) (w : World) (g : Nat) (t : TypeId) (cs : Array Value) (d : TypeDesc)
    (hp : tmps.getD p undef = .pointer (some ⟨g, 0, none⟩)) (hg : Blk w g t cs)
    (hu : Tryd.prog.underlying T = some d) (hd : aggT d = true) (hi : (Tryd.prog.info? T).map (·.size) = some cs.size) :
    (results fn tmps).run Tryd.prog w = .ok (.agg cs) w := by
  have hp' : tmps[p]?.getD undef = .pointer (some ⟨g, 0, none⟩) := by simpa using hp
  have hl : (loadVar T ⟨g, 0, none⟩).run Tryd.prog w = .ok (.agg cs) w := run_loadVar_row w g t T cs (0, 0) d hg hu (by cases d <;> first | rfl | (unfold aggT at hd; exact hd)) hi
  simp [results, h, hp', asAddr, hl]
set_option maxRecDepth 100000 in
set_option maxHeartbeats 6400000 in
theorem like_no (s o : St) (Y : Int) (w : World) (hT : Tab w) (B : s.Bd) (Bo : o.Bd) (h : leS s Y ≠ 0) :
    Calls Tryd.prog 69 #[.agg (sA s), .agg (sA o), .int .i64 Y] w fun e w' => e = .returned (.agg (sA (likeV s o Y))) ∧ Below w.heap.size w w' := by
  have i0 := Inv.start hT
  have hls := fun w hT => local_st s Y w hT B
  have hlo := fun w hT => local_st o Y w hT Bo
  rw [show likeV s o Y = s by unfold likeV; rw [if_neg (fun q => h q.1)]]
  have e1 : (leS s Y != 0) = true := by rw [bne_iff_ne]; exact h
  generalize leS s Y = E at *
  generalize lcS s Y = C at *
  go_enter Tryd.func69, Tryd.ntmps69
  go_wp2_with (first | refine wpList_row_g rfl 24 _ rfl _ rfl _ _ _ _ (((Wd.Blk.new w 24 (sA s)).alloc (.cells (sA o) 24)).alloc (.cells #[.int .u16 0, .int .u16 0, .int .u16 0, .int .u16 0, .int .u16 0, .int .u16 0, .int .u16 0, .int .u16 0] 24)) Tryd.underlying24 rfl (by kernel_rfl) ?_)
  have s_1 := (((Wd.Blk.new w 24 (sA s)).alloc (.cells (sA o) 24)).alloc (.cells #[.int .u16 0, .int .u16 0, .int .u16 0, .int .u16 0, .int .u16 0, .int .u16 0, .int .u16 0, .int .u16 0] 24))
  have o_1 := ((blk_at (w.alloc (.cells (sA s) 24)) 24 (sA o) (sz1 _ _ rfl)).alloc (.cells #[.int .u16 0, .int .u16 0, .int .u16 0, .int .u16 0, .int .u16 0, .int .u16 0, .int .u16 0, .int .u16 0] 24))
  have r_1 := (blk_at ((w.alloc (.cells (sA s) 24)).alloc (.cells (sA o) 24)) 24 #[.int .u16 0, .int .u16 0, .int .u16 0, .int .u16 0, .int .u16 0, .int .u16 0, .int .u16 0, .int .u16 0] (sz1 _ _ (sz1 _ _ rfl)))
  have inv_1 := (((i0.alloc (.cells (sA s) 24)).alloc (.cells (sA o) 24)).alloc (.cells #[.int .u16 0, .int .u16 0, .int .u16 0, .int .u16 0, .int .u16 0, .int .u16 0, .int .u16 0, .int .u16 0] 24))
  refine (hls _ inv_1.1).mono ?_; rintro e w_1 ⟨rfl, hb_1⟩
  have sc_1 := s_1.below hb_1 s_1.lt
  have oc_1 := o_1.below hb_1 o_1.lt
  have rc_1 := r_1.below hb_1 r_1.lt
  have invc_1 := inv_1.call hb_1
  clear s_1 o_1 r_1 inv_1 hb_1
  have s_2 := sc_1
  have o_2 := oc_1
  have r_2 := rc_1
  have inv_2 := invc_1
  have rz : Blk w_1 (w.heap.size + 1 + 1) 24 #[.int .u16 0, .int .u16 0, .int .u16 0, .int .u16 0, .int .u16 0, .int .u16 0, .int .u16 0, .int .u16 0] := r_2
  go_wp2_with (first | refine wpList_row_g rfl 24 _ rfl _ rfl _ _ _ _ s_2 Tryd.underlying24 rfl (by kernel_rfl) ?_ | refine wpList_store_g rfl 24 _ _ rfl rfl (w.heap.size + 1 + 1) 0 (sA s) (sA s) rfl rfl _ _ rz (by show 0 + 8 ≤ 8; decide) (by kernel_rfl) (by kernel_rfl) (by kernel_rfl) ?_)
  exact bodyPost_ret (res_c rfl _ _ _ _ (sA s) _ rfl (Blk.row rz _) Tryd.underlying24 rfl (by kernel_rfl)) rfl ⟨rfl, below_row inv_2.2 (by omega) _⟩
set_option maxRecDepth 100000 in
set_option maxHeartbeats 6400000 in
theorem like_not (s o : St) (Y : Int) (w : World) (hT : Tab w) (B : s.Bd) (Bo : o.Bd) (h : leS s Y = 0) (h2 : leS o Y ≠ 0) :
    Calls Tryd.prog 69 #[.agg (sA s), .agg (sA o), .int .i64 Y] w fun e w' => e = .returned (.agg (sA (likeV s o Y))) ∧ Below w.heap.size w w' := by
  have i0 := Inv.start hT
  have hls := fun w hT => local_st s Y w hT B
  have hlo := fun w hT => local_st o Y w hT Bo
  rw [show likeV s o Y = s by unfold likeV; rw [if_neg (fun q => h2 q.2.1)]]
  have e1 : (leS o Y != 0) = true := by rw [bne_iff_ne]; exact h2
  simp only [h] at hls
  clear h
  generalize leS o Y = E at *
  generalize lcS s Y = C at *
  generalize lcS o Y = C2 at *
  go_enter Tryd.func69, Tryd.ntmps69
  go_wp2_with (first | refine wpList_row_g rfl 24 _ rfl _ rfl _ _ _ _ (((Wd.Blk.new w 24 (sA s)).alloc (.cells (sA o) 24)).alloc (.cells #[.int .u16 0, .int .u16 0, .int .u16 0, .int .u16 0, .int .u16 0, .int .u16 0, .int .u16 0, .int .u16 0] 24)) Tryd.underlying24 rfl (by kernel_rfl) ?_)
  have s_1 := (((Wd.Blk.new w 24 (sA s)).alloc (.cells (sA o) 24)).alloc (.cells #[.int .u16 0, .int .u16 0, .int .u16 0, .int .u16 0, .int .u16 0, .int .u16 0, .int .u16 0, .int .u16 0] 24))
  have o_1 := ((blk_at (w.alloc (.cells (sA s) 24)) 24 (sA o) (sz1 _ _ rfl)).alloc (.cells #[.int .u16 0, .int .u16 0, .int .u16 0, .int .u16 0, .int .u16 0, .int .u16 0, .int .u16 0, .int .u16 0] 24))
  have r_1 := (blk_at ((w.alloc (.cells (sA s) 24)).alloc (.cells (sA o) 24)) 24 #[.int .u16 0, .int .u16 0, .int .u16 0, .int .u16 0, .int .u16 0, .int .u16 0, .int .u16 0, .int .u16 0] (sz1 _ _ (sz1 _ _ rfl)))
  have inv_1 := (((i0.alloc (.cells (sA s) 24)).alloc (.cells (sA o) 24)).alloc (.cells #[.int .u16 0, .int .u16 0, .int .u16 0, .int .u16 0, .int .u16 0, .int .u16 0, .int .u16 0, .int .u16 0] 24))
  refine (hls _ inv_1.1).mono ?_; rintro e w_1 ⟨rfl, hb_1⟩
  have sc_1 := s_1.below hb_1 s_1.lt
  have oc_1 := o_1.below hb_1 o_1.lt
  have rc_1 := r_1.below hb_1 r_1.lt
  have invc_1 := inv_1.call hb_1
  clear s_1 o_1 r_1 inv_1 hb_1
  go_wp2_with (first | refine wpList_row_g rfl 24 _ rfl _ rfl _ _ _ _ oc_1 Tryd.underlying24 rfl (by kernel_rfl) ?_)
  have s_2 := sc_1
  have o_2 := oc_1
  have r_2 := rc_1
  have inv_2 := invc_1
  refine (hlo _ inv_2.1).mono ?_; rintro e w_2 ⟨rfl, hb_2⟩
  have sc_2 := s_2.below hb_2 s_2.lt
  have oc_2 := o_2.below hb_2 o_2.lt
  have rc_2 := r_2.below hb_2 r_2.lt
  have invc_2 := inv_2.call hb_2
  clear s_2 o_2 r_2 inv_2 hb_2
  have s_3 := sc_2
  have o_3 := oc_2
  have r_3 := rc_2
  have inv_3 := invc_2
  have rz : Blk w_2 (w.heap.size + 1 + 1) 24 #[.int .u16 0, .int .u16 0, .int .u16 0, .int .u16 0, .int .u16 0, .int .u16 0, .int .u16 0, .int .u16 0] := r_3
  go_wp2_with (first | refine wpList_row_g rfl 24 _ rfl _ rfl _ _ _ _ s_3 Tryd.underlying24 rfl (by kernel_rfl) ?_ | refine wpList_store_g rfl 24 _ _ rfl rfl (w.heap.size + 1 + 1) 0 (sA s) (sA s) rfl rfl _ _ rz (by show 0 + 8 ≤ 8; decide) (by kernel_rfl) (by kernel_rfl) (by kernel_rfl) ?_)
  exact bodyPost_ret (res_c rfl _ _ _ _ (sA s) _ rfl (Blk.row rz _) Tryd.underlying24 rfl (by kernel_rfl)) rfl ⟨rfl, below_row inv_3.2 (by omega) _⟩
set_option maxRecDepth 100000 in
set_option maxHeartbeats 6400000 in
theorem like_far (s o : St) (Y : Int) (w : World) (hT : Tab w) (B : s.Bd) (Bo : o.Bd) (h : leS s Y = 0) (h2 : leS o Y = 0) (h3 : lcS s Y ≠ lcS o Y) :
    Calls Tryd.prog 69 #[.agg (sA s), .agg (sA o), .int .i64 Y] w fun e w' => e = .returned (.agg (sA (likeV s o Y))) ∧ Below w.heap.size w w' := by
  have i0 := Inv.start hT
  have hls := fun w hT => local_st s Y w hT B
  have hlo := fun w hT => local_st o Y w hT Bo
  rw [show likeV s o Y = s by unfold likeV; rw [if_neg (fun q => h3 q.2.2)]]
  simp only [h] at hls
  simp only [h2] at hlo
  have e1 : (lcS s Y != lcS o Y) = true := by rw [bne_iff_ne]; exact h3
  clear h h2
  generalize lcS s Y = C at *
  generalize lcS o Y = C2 at *
  go_enter Tryd.func69, Tryd.ntmps69
  go_wp2_with (first | refine wpList_row_g rfl 24 _ rfl _ rfl _ _ _ _ (((Wd.Blk.new w 24 (sA s)).alloc (.cells (sA o) 24)).alloc (.cells #[.int .u16 0, .int .u16 0, .int .u16 0, .int .u16 0, .int .u16 0, .int .u16 0, .int .u16 0, .int .u16 0] 24)) Tryd.underlying24 rfl (by kernel_rfl) ?_)
  have s_1 := (((Wd.Blk.new w 24 (sA s)).alloc (.cells (sA o) 24)).alloc (.cells #[.int .u16 0, .int .u16 0, .int .u16 0, .int .u16 0, .int .u16 0, .int .u16 0, .int .u16 0, .int .u16 0] 24))
  have o_1 := ((blk_at (w.alloc (.cells (sA s) 24)) 24 (sA o) (sz1 _ _ rfl)).alloc (.cells #[.int .u16 0, .int .u16 0, .int .u16 0, .int .u16 0, .int .u16 0, .int .u16 0, .int .u16 0, .int .u16 0] 24))
  have r_1 := (blk_at ((w.alloc (.cells (sA s) 24)).alloc (.cells (sA o) 24)) 24 #[.int .u16 0, .int .u16 0, .int .u16 0, .int .u16 0, .int .u16 0, .int .u16 0, .int .u16 0, .int .u16 0] (sz1 _ _ (sz1 _ _ rfl)))
  have inv_1 := (((i0.alloc (.cells (sA s) 24)).alloc (.cells (sA o) 24)).alloc (.cells #[.int .u16 0, .int .u16 0, .int .u16 0, .int .u16 0, .int .u16 0, .int .u16 0, .int .u16 0, .int .u16 0] 24))
  refine (hls _ inv_1.1).mono ?_; rintro e w_1 ⟨rfl, hb_1⟩
  have sc_1 := s_1.below hb_1 s_1.lt
  have oc_1 := o_1.below hb_1 o_1.lt
  have rc_1 := r_1.below hb_1 r_1.lt
  have invc_1 := inv_1.call hb_1
  clear s_1 o_1 r_1 inv_1 hb_1
  go_wp2_with (first | refine wpList_row_g rfl 24 _ rfl _ rfl _ _ _ _ oc_1 Tryd.underlying24 rfl (by kernel_rfl) ?_)
  have s_2 := sc_1
  have o_2 := oc_1
  have r_2 := rc_1
  have inv_2 := invc_1
  refine (hlo _ inv_2.1).mono ?_; rintro e w_2 ⟨rfl, hb_2⟩
  have sc_2 := s_2.below hb_2 s_2.lt
  have oc_2 := o_2.below hb_2 o_2.lt
  have rc_2 := r_2.below hb_2 r_2.lt
  have invc_2 := inv_2.call hb_2
  clear s_2 o_2 r_2 inv_2 hb_2
  have s_3 := sc_2
  have o_3 := oc_2
  have r_3 := rc_2
  have inv_3 := invc_2
  have rz : Blk w_2 (w.heap.size + 1 + 1) 24 #[.int .u16 0, .int .u16 0, .int .u16 0, .int .u16 0, .int .u16 0, .int .u16 0, .int .u16 0, .int .u16 0] := r_3
  go_wp2_with (first | refine wpList_row_g rfl 24 _ rfl _ rfl _ _ _ _ s_3 Tryd.underlying24 rfl (by kernel_rfl) ?_ | refine wpList_store_g rfl 24 _ _ rfl rfl (w.heap.size + 1 + 1) 0 (sA s) (sA s) rfl rfl _ _ rz (by show 0 + 8 ≤ 8; decide) (by kernel_rfl) (by kernel_rfl) (by kernel_rfl) ?_)
  exact bodyPost_ret (res_c rfl _ _ _ _ (sA s) _ rfl (Blk.row rz _) Tryd.underlying24 rfl (by kernel_rfl)) rfl ⟨rfl, below_row inv_3.2 (by omega) _⟩
set_option maxRecDepth 100000 in
set_option maxHeartbeats 6400000 in
theorem like_yes (s o : St) (Y : Int) (w : World) (hT : Tab w) (B : s.Bd) (Bo : o.Bd) (h : leS s Y = 0) (h2 : leS o Y = 0) (h3 : lcS s Y = lcS o Y) :
    Calls Tryd.prog 69 #[.agg (sA s), .agg (sA o), .int .i64 Y] w fun e w' => e = .returned (.agg (sA (likeV s o Y))) ∧ Below w.heap.size w w' := by
  have i0 := Inv.start hT
  have hls := fun w hT => local_st s Y w hT B
  have hlo := fun w hT => local_st o Y w hT Bo
  rw [show likeV s o Y = o by unfold likeV; rw [if_pos ⟨h, h2, h3⟩]]
  simp only [h] at hls
  simp only [h2, ← h3] at hlo
  clear h h2 h3
  generalize lcS s Y = C at *
  have e1 : (C != C) = false := by simp
  go_enter Tryd.func69, Tryd.ntmps69
  go_wp2_with (first | refine wpList_row_g rfl 24 _ rfl _ rfl _ _ _ _ (((Wd.Blk.new w 24 (sA s)).alloc (.cells (sA o) 24)).alloc (.cells #[.int .u16 0, .int .u16 0, .int .u16 0, .int .u16 0, .int .u16 0, .int .u16 0, .int .u16 0, .int .u16 0] 24)) Tryd.underlying24 rfl (by kernel_rfl) ?_)
  have s_1 := (((Wd.Blk.new w 24 (sA s)).alloc (.cells (sA o) 24)).alloc (.cells #[.int .u16 0, .int .u16 0, .int .u16 0, .int .u16 0, .int .u16 0, .int .u16 0, .int .u16 0, .int .u16 0] 24))
  have o_1 := ((blk_at (w.alloc (.cells (sA s) 24)) 24 (sA o) (sz1 _ _ rfl)).alloc (.cells #[.int .u16 0, .int .u16 0, .int .u16 0, .int .u16 0, .int .u16 0, .int .u16 0, .int .u16 0, .int .u16 0] 24))
  have r_1 := (blk_at ((w.alloc (.cells (sA s) 24)).alloc (.cells (sA o) 24)) 24 #[.int .u16 0, .int .u16 0, .int .u16 0, .int .u16 0, .int .u16 0, .int .u16 0, .int .u16 0, .int .u16 0] (sz1 _ _ (sz1 _ _ rfl)))
  have inv_1 := (((i0.alloc (.cells (sA s) 24)).alloc (.cells (sA o) 24)).alloc (.cells #[.int .u16 0, .int .u16 0, .int .u16 0, .int .u16 0, .int .u16 0, .int .u16 0, .int .u16 0, .int .u16 0] 24))
  refine (hls _ inv_1.1).mono ?_; rintro e w_1 ⟨rfl, hb_1⟩
  have sc_1 := s_1.below hb_1 s_1.lt
  have oc_1 := o_1.below hb_1 o_1.lt
  have rc_1 := r_1.below hb_1 r_1.lt
  have invc_1 := inv_1.call hb_1
  clear s_1 o_1 r_1 inv_1 hb_1
  go_wp2_with (first | refine wpList_row_g rfl 24 _ rfl _ rfl _ _ _ _ oc_1 Tryd.underlying24 rfl (by kernel_rfl) ?_)
  have s_2 := sc_1
  have o_2 := oc_1
  have r_2 := rc_1
  have inv_2 := invc_1
  refine (hlo _ inv_2.1).mono ?_; rintro e w_2 ⟨rfl, hb_2⟩
  have sc_2 := s_2.below hb_2 s_2.lt
  have oc_2 := o_2.below hb_2 o_2.lt
  have rc_2 := r_2.below hb_2 r_2.lt
  have invc_2 := inv_2.call hb_2
  clear s_2 o_2 r_2 inv_2 hb_2
  have s_3 := sc_2
  have o_3 := oc_2
  have r_3 := rc_2
  have inv_3 := invc_2
  have rz : Blk w_2 (w.heap.size + 1 + 1) 24 #[.int .u16 0, .int .u16 0, .int .u16 0, .int .u16 0, .int .u16 0, .int .u16 0, .int .u16 0, .int .u16 0] := r_3
  go_wp2_with (first | refine wpList_row_g rfl 24 _ rfl _ rfl _ _ _ _ o_3 Tryd.underlying24 rfl (by kernel_rfl) ?_ | refine wpList_store_g rfl 24 _ _ rfl rfl (w.heap.size + 1 + 1) 0 (sA o) (sA o) rfl rfl _ _ rz (by show 0 + 8 ≤ 8; decide) (by kernel_rfl) (by kernel_rfl) (by kernel_rfl) ?_)
  exact bodyPost_ret (res_c rfl _ _ _ _ (sA o) _ rfl (Blk.row rz _) Tryd.underlying24 rfl (by kernel_rfl)) rfl ⟨rfl, below_row inv_3.2 (by omega) _⟩
theorem like_any (s o : St) (Y : Int) (w : World) (hT : Tab w) (B : s.Bd) (Bo : o.Bd) :
    Calls Tryd.prog 69 #[.agg (sA s), .agg (sA o), .int .i64 Y] w fun e w' => e = .returned (.agg (sA (likeV s o Y))) ∧ Below w.heap.size w w' := by
  by_cases h : leS s Y = 0
  · by_cases h2 : leS o Y = 0
    · by_cases h3 : lcS s Y = lcS o Y
      · exact like_yes s o Y w hT B Bo h h2 h3
      · exact like_far s o Y w hT B Bo h h2 h3
    · exact like_not s o Y w hT B Bo h h2
  · exact like_no s o Y w hT B Bo h
set_option maxRecDepth 100000 in
set_option maxHeartbeats 6400000 in
theorem rec_no (r o : Rc) (Y : Int) (w : World) (hT : Tab w) (B : r.Bd) (Bo : o.Bd) (h : r.ok = false) :
    Calls Tryd.prog 71 #[r.V, o.V, .int .i64 Y] w fun e w' => e = .returned (shRec r o Y).V ∧ Below w.heap.size w w' := by
  have i0 := Inv.start hT
  rw [show shRec r o Y = r by unfold shRec; rw [if_neg (fun q => by have := q.1; rw [h] at this; cases this)]]
  have hkr : ∀ w, Tab w → Calls Tryd.prog 24 #[r.V] w fun e w' => e = .returned (.int .i64 2) ∧ Below w.heap.size w w' := fun w hT => by
    have := chk_any r.b r.c r.d r.p r.q w hT B; unfold rcE at this; rw [show rcOk r.b r.c r.d r.p r.q = false from h] at this; exact this
  go_enter Tryd.func71, Tryd.ntmps71
  go_wp2_with (first | refine wpList_row_g rfl 26 _ rfl _ rfl _ _ _ _ (((Wd.Blk.new w 26 (rcA r.b r.c r.d r.p r.q)).alloc (.cells (rcA o.b o.c o.d o.p o.q) 26)).alloc (.cells #[.int .i32 0, .int .i32 0, .int .i32 0, .int .u16 0, .int .u16 0, .int .u16 0, .int .u16 0, .int .u16 0, .int .u16 0, .int .u16 0, .int .u16 0, .int .u16 0, .int .u16 0, .int .u16 0, .int .u16 0, .int .u16 0, .int .u16 0, .int .u16 0, .int .u16 0] 26)) Tryd.underlying26 rfl (by kernel_rfl) ?_)
  have r_1 := (((Wd.Blk.new w 26 (rcA r.b r.c r.d r.p r.q)).alloc (.cells (rcA o.b o.c o.d o.p o.q) 26)).alloc (.cells #[.int .i32 0, .int .i32 0, .int .i32 0, .int .u16 0, .int .u16 0, .int .u16 0, .int .u16 0, .int .u16 0, .int .u16 0, .int .u16 0, .int .u16 0, .int .u16 0, .int .u16 0, .int .u16 0, .int .u16 0, .int .u16 0, .int .u16 0, .int .u16 0, .int .u16 0] 26))
  have o_1 := ((blk_at (w.alloc (.cells (rcA r.b r.c r.d r.p r.q) 26)) 26 (rcA o.b o.c o.d o.p o.q) (sz1 _ _ rfl)).alloc (.cells #[.int .i32 0, .int .i32 0, .int .i32 0, .int .u16 0, .int .u16 0, .int .u16 0, .int .u16 0, .int .u16 0, .int .u16 0, .int .u16 0, .int .u16 0, .int .u16 0, .int .u16 0, .int .u16 0, .int .u16 0, .int .u16 0, .int .u16 0, .int .u16 0, .int .u16 0] 26))
  have z_1 := (blk_at ((w.alloc (.cells (rcA r.b r.c r.d r.p r.q) 26)).alloc (.cells (rcA o.b o.c o.d o.p o.q) 26)) 26 #[.int .i32 0, .int .i32 0, .int .i32 0, .int .u16 0, .int .u16 0, .int .u16 0, .int .u16 0, .int .u16 0, .int .u16 0, .int .u16 0, .int .u16 0, .int .u16 0, .int .u16 0, .int .u16 0, .int .u16 0, .int .u16 0, .int .u16 0, .int .u16 0, .int .u16 0] (sz1 _ _ (sz1 _ _ rfl)))
  have inv_1 := (((i0.alloc (.cells (rcA r.b r.c r.d r.p r.q) 26)).alloc (.cells (rcA o.b o.c o.d o.p o.q) 26)).alloc (.cells #[.int .i32 0, .int .i32 0, .int .i32 0, .int .u16 0, .int .u16 0, .int .u16 0, .int .u16 0, .int .u16 0, .int .u16 0, .int .u16 0, .int .u16 0, .int .u16 0, .int .u16 0, .int .u16 0, .int .u16 0, .int .u16 0, .int .u16 0, .int .u16 0, .int .u16 0] 26))
  refine (hkr _ inv_1.1).mono ?_; rintro e w_1 ⟨rfl, hb_1⟩
  have rc_1 := r_1.below hb_1 r_1.lt
  have oc_1 := o_1.below hb_1 o_1.lt
  have zc_1 := z_1.below hb_1 z_1.lt
  have invc_1 := inv_1.call hb_1
  clear r_1 o_1 z_1 inv_1 hb_1
  have r_2 := rc_1
  have o_2 := oc_1
  have z_2 := zc_1
  have inv_2 := invc_1
  have rz : Blk w_1 (w.heap.size + 1 + 1) 26 #[.int .i32 0, .int .i32 0, .int .i32 0, .int .u16 0, .int .u16 0, .int .u16 0, .int .u16 0, .int .u16 0, .int .u16 0, .int .u16 0, .int .u16 0, .int .u16 0, .int .u16 0, .int .u16 0, .int .u16 0, .int .u16 0, .int .u16 0, .int .u16 0, .int .u16 0] := z_2
  go_wp2_with (first | refine wpList_row_g rfl 26 _ rfl _ rfl _ _ _ _ r_2 Tryd.underlying26 rfl (by kernel_rfl) ?_ | refine wpList_store_g rfl 26 _ _ rfl rfl (w.heap.size + 1 + 1) 0 (rcA r.b r.c r.d r.p r.q) (rcA r.b r.c r.d r.p r.q) rfl rfl _ _ rz (by show 0 + 19 ≤ 19; decide) (by kernel_rfl) (by kernel_rfl) (by kernel_rfl) ?_)
  exact bodyPost_ret (res_c rfl _ _ _ _ (rcA r.b r.c r.d r.p r.q) _ rfl (Blk.row rz _) Tryd.underlying26 rfl (by kernel_rfl)) rfl ⟨rfl, below_row inv_2.2 (by omega) _⟩
set_option maxRecDepth 100000 in
set_option maxHeartbeats 6400000 in
theorem rec_not (r o : Rc) (Y : Int) (w : World) (hT : Tab w) (B : r.Bd) (Bo : o.Bd) (h : r.ok = true) (h2 : o.ok = false) :
    Calls Tryd.prog 71 #[r.V, o.V, .int .i64 Y] w fun e w' => e = .returned (shRec r o Y).V ∧ Below w.heap.size w w' := by
  have i0 := Inv.start hT
  rw [show shRec r o Y = r by unfold shRec; rw [if_neg (fun q => by have := q.2; rw [h2] at this; cases this)]]
  have hkr : ∀ w, Tab w → Calls Tryd.prog 24 #[r.V] w fun e w' => e = .returned (.int .i64 0) ∧ Below w.heap.size w w' := fun w hT => by
    have := chk_any r.b r.c r.d r.p r.q w hT B; unfold rcE at this; rw [show rcOk r.b r.c r.d r.p r.q = true from h] at this; exact this
  have hko : ∀ w, Tab w → Calls Tryd.prog 24 #[o.V] w fun e w' => e = .returned (.int .i64 2) ∧ Below w.heap.size w w' := fun w hT => by
    have := chk_any o.b o.c o.d o.p o.q w hT Bo; unfold rcE at this; rw [show rcOk o.b o.c o.d o.p o.q = false from h2] at this; exact this
  go_enter Tryd.func71, Tryd.ntmps71
  go_wp2_with (first | refine wpList_row_g rfl 26 _ rfl _ rfl _ _ _ _ (((Wd.Blk.new w 26 (rcA r.b r.c r.d r.p r.q)).alloc (.cells (rcA o.b o.c o.d o.p o.q) 26)).alloc (.cells #[.int .i32 0, .int .i32 0, .int .i32 0, .int .u16 0, .int .u16 0, .int .u16 0, .int .u16 0, .int .u16 0, .int .u16 0, .int .u16 0, .int .u16 0, .int .u16 0, .int .u16 0, .int .u16 0, .int .u16 0, .int .u16 0, .int .u16 0, .int .u16 0, .int .u16 0] 26)) Tryd.underlying26 rfl (by kernel_rfl) ?_)
  have r_1 := (((Wd.Blk.new w 26 (rcA r.b r.c r.d r.p r.q)).alloc (.cells (rcA o.b o.c o.d o.p o.q) 26)).alloc (.cells #[.int .i32 0, .int .i32 0, .int .i32 0, .int .u16 0, .int .u16 0, .int .u16 0, .int .u16 0, .int .u16 0, .int .u16 0, .int .u16 0, .int .u16 0, .int .u16 0, .int .u16 0, .int .u16 0, .int .u16 0, .int .u16 0, .int .u16 0, .int .u16 0, .int .u16 0] 26))
  have o_1 := ((blk_at (w.alloc (.cells (rcA r.b r.c r.d r.p r.q) 26)) 26 (rcA o.b o.c o.d o.p o.q) (sz1 _ _ rfl)).alloc (.cells #[.int .i32 0, .int .i32 0, .int .i32 0, .int .u16 0, .int .u16 0, .int .u16 0, .int .u16 0, .int .u16 0, .int .u16 0, .int .u16 0, .int .u16 0, .int .u16 0, .int .u16 0, .int .u16 0, .int .u16 0, .int .u16 0, .int .u16 0, .int .u16 0, .int .u16 0] 26))
  have z_1 := (blk_at ((w.alloc (.cells (rcA r.b r.c r.d r.p r.q) 26)).alloc (.cells (rcA o.b o.c o.d o.p o.q) 26)) 26 #[.int .i32 0, .int .i32 0, .int .i32 0, .int .u16 0, .int .u16 0, .int .u16 0, .int .u16 0, .int .u16 0, .int .u16 0, .int .u16 0, .int .u16 0, .int .u16 0, .int .u16 0, .int .u16 0, .int .u16 0, .int .u16 0, .int .u16 0, .int .u16 0, .int .u16 0] (sz1 _ _ (sz1 _ _ rfl)))
  have inv_1 := (((i0.alloc (.cells (rcA r.b r.c r.d r.p r.q) 26)).alloc (.cells (rcA o.b o.c o.d o.p o.q) 26)).alloc (.cells #[.int .i32 0, .int .i32 0, .int .i32 0, .int .u16 0, .int .u16 0, .int .u16 0, .int .u16 0, .int .u16 0, .int .u16 0, .int .u16 0, .int .u16 0, .int .u16 0, .int .u16 0, .int .u16 0, .int .u16 0, .int .u16 0, .int .u16 0, .int .u16 0, .int .u16 0] 26))
  refine (hkr _ inv_1.1).mono ?_; rintro e w_1 ⟨rfl, hb_1⟩
  have rc_1 := r_1.below hb_1 r_1.lt
  have oc_1 := o_1.below hb_1 o_1.lt
  have zc_1 := z_1.below hb_1 z_1.lt
  have invc_1 := inv_1.call hb_1
  clear r_1 o_1 z_1 inv_1 hb_1
  go_wp2_with (first | refine wpList_row_g rfl 26 _ rfl _ rfl _ _ _ _ oc_1 Tryd.underlying26 rfl (by kernel_rfl) ?_)
  have r_2 := rc_1
  have o_2 := oc_1
  have z_2 := zc_1
  have inv_2 := invc_1
  refine (hko _ inv_2.1).mono ?_; rintro e w_2 ⟨rfl, hb_2⟩
  have rc_2 := r_2.below hb_2 r_2.lt
  have oc_2 := o_2.below hb_2 o_2.lt
  have zc_2 := z_2.below hb_2 z_2.lt
  have invc_2 := inv_2.call hb_2
  clear r_2 o_2 z_2 inv_2 hb_2
  have r_3 := rc_2
  have o_3 := oc_2
  have z_3 := zc_2
  have inv_3 := invc_2
  have rz : Blk w_2 (w.heap.size + 1 + 1) 26 #[.int .i32 0, .int .i32 0, .int .i32 0, .int .u16 0, .int .u16 0, .int .u16 0, .int .u16 0, .int .u16 0, .int .u16 0, .int .u16 0, .int .u16 0, .int .u16 0, .int .u16 0, .int .u16 0, .int .u16 0, .int .u16 0, .int .u16 0, .int .u16 0, .int .u16 0] := z_3
  go_wp2_with (first | refine wpList_row_g rfl 26 _ rfl _ rfl _ _ _ _ r_3 Tryd.underlying26 rfl (by kernel_rfl) ?_ | refine wpList_store_g rfl 26 _ _ rfl rfl (w.heap.size + 1 + 1) 0 (rcA r.b r.c r.d r.p r.q) (rcA r.b r.c r.d r.p r.q) rfl rfl _ _ rz (by show 0 + 19 ≤ 19; decide) (by kernel_rfl) (by kernel_rfl) (by kernel_rfl) ?_)
  exact bodyPost_ret (res_c rfl _ _ _ _ (rcA r.b r.c r.d r.p r.q) _ rfl (Blk.row rz _) Tryd.underlying26 rfl (by kernel_rfl)) rfl ⟨rfl, below_row inv_3.2 (by omega) _⟩
set_option maxRecDepth 100000 in
set_option maxHeartbeats 6400000 in
theorem rec_yes (r o : Rc) (Y : Int) (w : World) (hT : Tab w) (B : r.Bd) (Bo : o.Bd) (h : r.ok = true) (h2 : o.ok = true) :
    Calls Tryd.prog 71 #[r.V, o.V, .int .i64 Y] w fun e w' => e = .returned (shRec r o Y).V ∧ Below w.heap.size w w' := by
  have i0 := Inv.start hT
  rw [show shRec r o Y = ⟨r.b, r.c, r.d, likeV r.p o.p Y, likeV r.q o.q Y⟩ by unfold shRec; rw [if_pos ⟨h, h2⟩]]
  have hkr : ∀ w, Tab w → Calls Tryd.prog 24 #[r.V] w fun e w' => e = .returned (.int .i64 0) ∧ Below w.heap.size w w' := fun w hT => by
    have := chk_any r.b r.c r.d r.p r.q w hT B; unfold rcE at this; rw [show rcOk r.b r.c r.d r.p r.q = true from h] at this; exact this
  have hko : ∀ w, Tab w → Calls Tryd.prog 24 #[o.V] w fun e w' => e = .returned (.int .i64 0) ∧ Below w.heap.size w w' := fun w hT => by
    have := chk_any o.b o.c o.d o.p o.q w hT Bo; unfold rcE at this; rw [show rcOk o.b o.c o.d o.p o.q = true from h2] at this; exact this
  have hlp := fun w hT => like_any r.p o.p Y w hT B.p Bo.p
  have hlq := fun w hT => like_any r.q o.q Y w hT B.q Bo.q
  obtain ⟨p1, ep⟩ : ∃ x, likeV r.p o.p Y = x := ⟨_, rfl⟩
  obtain ⟨q1, eq⟩ : ∃ x, likeV r.q o.q Y = x := ⟨_, rfl⟩
  rw [ep] at hlp; rw [eq] at hlq; rw [ep, eq]; clear ep eq
  go_enter Tryd.func71, Tryd.ntmps71
  go_wp2_with (first | refine wpList_row_g rfl 26 _ rfl _ rfl _ _ _ _ (((Wd.Blk.new w 26 (rcA r.b r.c r.d r.p r.q)).alloc (.cells (rcA o.b o.c o.d o.p o.q) 26)).alloc (.cells #[.int .i32 0, .int .i32 0, .int .i32 0, .int .u16 0, .int .u16 0, .int .u16 0, .int .u16 0, .int .u16 0, .int .u16 0, .int .u16 0, .int .u16 0, .int .u16 0, .int .u16 0, .int .u16 0, .int .u16 0, .int .u16 0, .int .u16 0, .int .u16 0, .int .u16 0] 26)) Tryd.underlying26 rfl (by kernel_rfl) ?_)
  have r_1 := (((Wd.Blk.new w 26 (rcA r.b r.c r.d r.p r.q)).alloc (.cells (rcA o.b o.c o.d o.p o.q) 26)).alloc (.cells #[.int .i32 0, .int .i32 0, .int .i32 0, .int .u16 0, .int .u16 0, .int .u16 0, .int .u16 0, .int .u16 0, .int .u16 0, .int .u16 0, .int .u16 0, .int .u16 0, .int .u16 0, .int .u16 0, .int .u16 0, .int .u16 0, .int .u16 0, .int .u16 0, .int .u16 0] 26))
  have o_1 := ((blk_at (w.alloc (.cells (rcA r.b r.c r.d r.p r.q) 26)) 26 (rcA o.b o.c o.d o.p o.q) (sz1 _ _ rfl)).alloc (.cells #[.int .i32 0, .int .i32 0, .int .i32 0, .int .u16 0, .int .u16 0, .int .u16 0, .int .u16 0, .int .u16 0, .int .u16 0, .int .u16 0, .int .u16 0, .int .u16 0, .int .u16 0, .int .u16 0, .int .u16 0, .int .u16 0, .int .u16 0, .int .u16 0, .int .u16 0] 26))
  have z_1 := (blk_at ((w.alloc (.cells (rcA r.b r.c r.d r.p r.q) 26)).alloc (.cells (rcA o.b o.c o.d o.p o.q) 26)) 26 #[.int .i32 0, .int .i32 0, .int .i32 0, .int .u16 0, .int .u16 0, .int .u16 0, .int .u16 0, .int .u16 0, .int .u16 0, .int .u16 0, .int .u16 0, .int .u16 0, .int .u16 0, .int .u16 0, .int .u16 0, .int .u16 0, .int .u16 0, .int .u16 0, .int .u16 0] (sz1 _ _ (sz1 _ _ rfl)))
  have inv_1 := (((i0.alloc (.cells (rcA r.b r.c r.d r.p r.q) 26)).alloc (.cells (rcA o.b o.c o.d o.p o.q) 26)).alloc (.cells #[.int .i32 0, .int .i32 0, .int .i32 0, .int .u16 0, .int .u16 0, .int .u16 0, .int .u16 0, .int .u16 0, .int .u16 0, .int .u16 0, .int .u16 0, .int .u16 0, .int .u16 0, .int .u16 0, .int .u16 0, .int .u16 0, .int .u16 0, .int .u16 0, .int .u16 0] 26))
  refine (hkr _ inv_1.1).mono ?_; rintro e w_1 ⟨rfl, hb_1⟩
  have rc_1 := r_1.below hb_1 r_1.lt
  have oc_1 := o_1.below hb_1 o_1.lt
  have zc_1 := z_1.below hb_1 z_1.lt
  have invc_1 := inv_1.call hb_1
  clear r_1 o_1 z_1 inv_1 hb_1
  go_wp2_with (first | refine wpList_row_g rfl 26 _ rfl _ rfl _ _ _ _ oc_1 Tryd.underlying26 rfl (by kernel_rfl) ?_)
  have r_2 := rc_1
  have o_2 := oc_1
  have z_2 := zc_1
  have inv_2 := invc_1
  refine (hko _ inv_2.1).mono ?_; rintro e w_2 ⟨rfl, hb_2⟩
  have rc_2 := r_2.below hb_2 r_2.lt
  have oc_2 := o_2.below hb_2 o_2.lt
  have zc_2 := z_2.below hb_2 z_2.lt
  have invc_2 := inv_2.call hb_2
  clear r_2 o_2 z_2 inv_2 hb_2
  have r_3 := rc_2
  have o_3 := oc_2
  have z_3 := zc_2
  have inv_3 := invc_2
  go_wp2_with (first | refine wpList_seg_g rfl 24 _ rfl _ 3 (sA r.p) rfl _ _ _ _ r_3 Tryd.underlying24 rfl (by kernel_rfl) (by kernel_rfl) ?_ | refine wpList_seg_g rfl 24 _ rfl _ 3 (sA o.p) rfl _ _ _ _ o_3 Tryd.underlying24 rfl (by kernel_rfl) (by kernel_rfl) ?_)
  have r_4 := r_3
  have o_4 := o_3
  have z_4 := z_3
  have inv_4 := inv_3
  refine (hlp _ inv_4.1).mono ?_; rintro e w_4 ⟨rfl, hb_4⟩
  have rc_4 := r_4.below hb_4 r_4.lt
  have oc_4 := o_4.below hb_4 o_4.lt
  have zc_4 := z_4.below hb_4 z_4.lt
  have invc_4 := inv_4.call hb_4
  clear r_4 o_4 z_4 inv_4 hb_4
  have r_5 := rc_4
  have o_5 := oc_4
  have z_5 := zc_4
  have inv_5 := invc_4
  have rz : Blk w_4 w.heap.size 26 (rcA r.b r.c r.d r.p r.q) := r_5
  have bz := below_row (B := w.heap.size) inv_5.2 (Nat.le_refl _) (rcA r.b r.c r.d p1 r.q)
  have r2 := Blk.row rz (rcA r.b r.c r.d p1 r.q)
  have o2 := Blk.rowFar o_5 (show w.heap.size + 1 ≠ w.heap.size by omega) (rcA r.b r.c r.d p1 r.q)
  have z2 := Blk.rowFar z_5 (show w.heap.size + 1 + 1 ≠ w.heap.size by omega) (rcA r.b r.c r.d p1 r.q)
  have j2 := inv_of hT bz
  go_upto_region 4 with (refine wpList_store_g rfl 24 _ _ rfl rfl w.heap.size 3 (sA p1) (rcA r.b r.c r.d p1 r.q) rfl rfl _ _ rz (by show 3 + 8 ≤ 19; decide) (by kernel_rfl) (by kernel_rfl) (by kernel_rfl) ?_)
  clear rz bz r_5 o_5 z_5 inv_5
  generalize w_4.setRow w.heap.size (rcA r.b r.c r.d p1 r.q) = W2 at *
  go_wp2_with (first | refine wpList_seg_g rfl 24 _ rfl _ 11 (sA r.q) rfl _ _ _ _ r2 Tryd.underlying24 rfl (by kernel_rfl) (by kernel_rfl) ?_ | refine wpList_seg_g rfl 24 _ rfl _ 11 (sA o.q) rfl _ _ _ _ o2 Tryd.underlying24 rfl (by kernel_rfl) (by kernel_rfl) ?_)
  have r_6 := r2
  have o_6 := o2
  have z_6 := z2
  have inv_6 := j2
  refine (hlq _ inv_6.1).mono ?_; rintro e w_6 ⟨rfl, hb_6⟩
  have rc_6 := r_6.below hb_6 r_6.lt
  have oc_6 := o_6.below hb_6 o_6.lt
  have zc_6 := z_6.below hb_6 z_6.lt
  have invc_6 := inv_6.call hb_6
  clear r_6 o_6 z_6 inv_6 hb_6
  have r_7 := rc_6
  have o_7 := oc_6
  have z_7 := zc_6
  have inv_7 := invc_6
  have rz : Blk w_6 w.heap.size 26 (rcA r.b r.c r.d p1 r.q) := r_7
  have bz := below_row (B := w.heap.size) inv_7.2 (Nat.le_refl _) (rcA r.b r.c r.d p1 q1)
  have r4 := Blk.row rz (rcA r.b r.c r.d p1 q1)
  have z4 := Blk.rowFar z_7 (show w.heap.size + 1 + 1 ≠ w.heap.size by omega) (rcA r.b r.c r.d p1 q1)
  have j4 := inv_of hT bz
  go_upto_region 5 with (refine wpList_store_g rfl 24 _ _ rfl rfl w.heap.size 11 (sA q1) (rcA r.b r.c r.d p1 q1) rfl rfl _ _ rz (by show 11 + 8 ≤ 19; decide) (by kernel_rfl) (by kernel_rfl) (by kernel_rfl) ?_)
  clear rz bz r_7 o_7 z_7 inv_7
  generalize w_6.setRow w.heap.size (rcA r.b r.c r.d p1 q1) = W4 at *
  have r_8 := r4
  have z_8 := z4
  have inv_8 := j4
  have rz : Blk W4 (w.heap.size + 1 + 1) 26 #[.int .i32 0, .int .i32 0, .int .i32 0, .int .u16 0, .int .u16 0, .int .u16 0, .int .u16 0, .int .u16 0, .int .u16 0, .int .u16 0, .int .u16 0, .int .u16 0, .int .u16 0, .int .u16 0, .int .u16 0, .int .u16 0, .int .u16 0, .int .u16 0, .int .u16 0] := z_8
  go_wp2_with (first | refine wpList_row_g rfl 26 _ rfl _ rfl _ _ _ _ r_8 Tryd.underlying26 rfl (by kernel_rfl) ?_ | refine wpList_store_g rfl 26 _ _ rfl rfl (w.heap.size + 1 + 1) 0 (rcA r.b r.c r.d p1 q1) (rcA r.b r.c r.d p1 q1) rfl rfl _ _ rz (by show 0 + 19 ≤ 19; decide) (by kernel_rfl) (by kernel_rfl) (by kernel_rfl) ?_)
  exact bodyPost_ret (res_c rfl _ _ _ _ (rcA r.b r.c r.d p1 q1) _ rfl (Blk.row rz _) Tryd.underlying26 rfl (by kernel_rfl)) rfl ⟨rfl, below_row inv_8.2 (by omega) _⟩
theorem rec_any (r o : Rc) (Y : Int) (w : World) (hT : Tab w) (B : r.Bd) (Bo : o.Bd) :
    Calls Tryd.prog 71 #[r.V, o.V, .int .i64 Y] w fun e w' => e = .returned (shRec r o Y).V ∧ Below w.heap.size w w' := by
  cases h : r.ok with
  | false => exact rec_no r o Y w hT B Bo h
  | true =>
    cases h2 : o.ok with
    | false => exact rec_not r o Y w hT B Bo h h2
    | true => exact rec_yes r o Y w hT B Bo h h2
end Go.Proofs.YtefcjccapekjdaaDoor.Sh
