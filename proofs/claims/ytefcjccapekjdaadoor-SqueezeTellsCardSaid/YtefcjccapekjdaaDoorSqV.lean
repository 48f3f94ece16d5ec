/-
  'lives' of the statements of plans, walked.
-/
import Derived.Test.YtefcjccapekjdaaDoorSqU
import Derived.Deep.DeepCutAuto
namespace Go.Proofs.YtefcjccapekjdaaDoor.Sq
open Go.ChangeShapes Go.WideShapes Go.ChangeAt Go.RowKit
open Go.Proofs.YtefcjccapekjdaaDoor
open Go.Proofs.YtefcjccapekjdaaDoor.Wd
open Go.Proofs.YtefcjccapekjdaaDoor.Rec
open Go.Proofs.YtefcjccapekjdaaDoor.Yr
open Go.Proofs.YtefcjccapekjdaaDoor.Clk (yrV yrE)
open Go.Proofs.YtefcjccapekjdaaDoor.Civ (Tab Inv)
set_option linter.unusedVariables false
open Go.Proofs.YtefcjccapekjdaaDoor.Tb
open Go.Proofs.YtefcjccapekjdaaDoor.Ld
theorem PlanR.al {w : World} {P : Int} {A A2 : Option Addr} {n n2 : Nat} {l : List Rc} {q : List Int} (h : PlanR w w.heap.size P A A2 n n2 l q) (o : Obj) : PlanR (w.alloc o) (w.alloc o).heap.size P A A2 n n2 l q := (h.below ((Below.refl _ _).alloc (Nat.le_refl _) _)).more (by rw [sz1 _ _ rfl]; exact Nat.le_succ _)
theorem PlanR.ca {w w' : World} {P : Int} {A A2 : Option Addr} {n n2 : Nat} {l : List Rc} {q : List Int} (h : PlanR w w.heap.size P A A2 n n2 l q) (hb : Below w.heap.size w w') : PlanR w' w'.heap.size P A A2 n n2 l q := (h.below hb).more hb.size
theorem recs_al {w : World} {A : Option Addr} {n : Nat} {l : List Rc} (h : Recs w w.heap.size A n l) (o : Obj) : Recs (w.alloc o) (w.alloc o).heap.size A n l := (h.below ((Below.refl _ _).alloc (Nat.le_refl _) _)).more (by rw [sz1 _ _ rfl]; exact Nat.le_succ _)
theorem recs_ca {w w' : World} {A : Option Addr} {n : Nat} {l : List Rc} (h : Recs w w.heap.size A n l) (hb : Below w.heap.size w w') : Recs w' w'.heap.size A n l := (h.below hb).more hb.size
theorem mis_al {w : World} {A : Option Addr} {n : Nat} {key : ByteArray} {l : List (Int × Int)} (h : Mis w w.heap.size A n key l) (o : Obj) : Mis (w.alloc o) (w.alloc o).heap.size A n key l := (h.below ((Below.refl _ _).alloc (Nat.le_refl _) _)).more (by rw [sz1 _ _ rfl]; exact Nat.le_succ _)
theorem mis_ca {w w' : World} {A : Option Addr} {n : Nat} {key : ByteArray} {l : List (Int × Int)} (h : Mis w w.heap.size A n key l) (hb : Below w.heap.size w w') : Mis w' w'.heap.size A n key l := (h.below hb).more hb.size
theorem three_bd : ∀ r ∈ [rcX, rcZ, rcY], r.Bd := by
  intro r hr
  simp only [List.mem_cons, List.not_mem_nil, or_false] at hr
  rcases hr with rfl | rfl | rfl
  · exact rcX_bd
  · exact rcZ_bd
  · exact rcY_bd
theorem one_bd : ∀ r ∈ [rcX], r.Bd := by
  intro r hr
  rw [List.mem_singleton.1 hr]; exact rcX_bd
theorem mis_blk {w : World} {g : Nat} {t : TypeId} {key : ByteArray} {l : List (Int × Int)} {m : Nat} (x : Blk w g t (flatM key l).toArray) (hm : l.length = m) : Mis w w.heap.size (some ⟨g, 0, none⟩) m key l := by
  refine ⟨hm, by rw [flatM_len, hm], fun _ => ⟨_, rfl, x.lt, fun j u hu => ?_⟩⟩
  have e : (⟨g, 0, none⟩ : Addr).add j = ⟨g, j, none⟩ := by unfold Addr.add; split <;> simp_all
  rw [e, x.cell]
  simpa using hu
set_option maxRecDepth 100000 in
set_option maxHeartbeats 12800000 in
attribute [-go_sem] run_eql_struct run_neq_struct in
theorem lives28_any (w : World) (hT : Tab w) :
    Calls Tryd.prog 53 #[] w fun e w' => e = .returned (.bool true) ∧ Below w.heap.size w w' := by
  have i0 := Civ.Inv.start hT
  go_enter Tryd.func53, Tryd.ntmps53
  have xa := ((Blk.new w 26 z19).alloc (.cells z19 26)).alloc (.cells z19 26)
  have yb := (blk_at (w.alloc (.cells z19 26)) 26 z19 (sz1 w _ rfl)).alloc (.cells z19 26)
  have vc := blk_at ((w.alloc (.cells z19 26)).alloc (.cells z19 26)) 26 z19 (sz1 _ _ (sz1 w _ rfl))
  have ia := ((i0.alloc (.cells z19 26)).alloc (.cells z19 26)).alloc (.cells z19 26)
  have yb1 := Blk.rowFar yb (show w.heap.size + 1 ≠ w.heap.size by omega) rcX.A
  have vc1 := Blk.rowFar vc (show w.heap.size + 1 + 1 ≠ w.heap.size by omega) rcX.A
  have vc2 := Blk.rowFar vc1 (show w.heap.size + 1 + 1 ≠ w.heap.size + 1 by omega) rcZ.A
  have x2 := Blk.rowFar (Blk.rowFar (Blk.row xa rcX.A) (show w.heap.size ≠ w.heap.size + 1 by omega) rcZ.A) (show w.heap.size ≠ w.heap.size + 1 + 1 by omega) rcY.A
  have y2 := Blk.rowFar (Blk.row yb1 rcZ.A) (show w.heap.size + 1 ≠ w.heap.size + 1 + 1 by omega) rcY.A
  have v2 := Blk.row vc2 rcY.A
  have b2 := below_row (below_row (below_row ia.2 (Nat.le_refl _) rcX.A) (show w.heap.size ≤ w.heap.size + 1 by omega) rcZ.A) (show w.heap.size ≤ w.heap.size + 1 + 1 by omega) rcY.A
  clear vc1 yb ia vc
  unfold z19 at xa yb1 vc2 x2 y2 v2 b2
  go_upto_region 2 with (first | refine wpList_store_g rfl 26 _ _ rfl rfl _ 0 rcX.A rcX.A rfl rfl _ _ xa (by show 0 + 19 ≤ 19; decide) (by kernel_rfl) (by kernel_rfl) (by kernel_rfl) ?_ | refine wpList_store_g rfl 26 _ _ rfl rfl _ 0 rcZ.A rcZ.A rfl rfl _ _ yb1 (by show 0 + 19 ≤ 19; decide) (by kernel_rfl) (by kernel_rfl) (by kernel_rfl) ?_ | refine wpList_store_g rfl 26 _ _ rfl rfl _ 0 rcY.A rcY.A rfl rfl _ _ vc2 (by show 0 + 19 ≤ 19; decide) (by kernel_rfl) (by kernel_rfl) (by kernel_rfl) ?_)
  clear xa yb1 vc2
  generalize (((((w.alloc (.cells #[.int .i32 0, .int .i32 0, .int .i32 0, .int .u16 0, .int .u16 0, .int .u16 0, .int .u16 0, .int .u16 0, .int .u16 0, .int .u16 0, .int .u16 0, .int .u16 0, .int .u16 0, .int .u16 0, .int .u16 0, .int .u16 0, .int .u16 0, .int .u16 0, .int .u16 0] 26)).alloc (.cells #[.int .i32 0, .int .i32 0, .int .i32 0, .int .u16 0, .int .u16 0, .int .u16 0, .int .u16 0, .int .u16 0, .int .u16 0, .int .u16 0, .int .u16 0, .int .u16 0, .int .u16 0, .int .u16 0, .int .u16 0, .int .u16 0, .int .u16 0, .int .u16 0, .int .u16 0] 26)).alloc (.cells #[.int .i32 0, .int .i32 0, .int .i32 0, .int .u16 0, .int .u16 0, .int .u16 0, .int .u16 0, .int .u16 0, .int .u16 0, .int .u16 0, .int .u16 0, .int .u16 0, .int .u16 0, .int .u16 0, .int .u16 0, .int .u16 0, .int .u16 0, .int .u16 0, .int .u16 0] 26)).setRow w.heap.size rcX.A).setRow (w.heap.size + 1) rcZ.A).setRow (w.heap.size + 1 + 1) rcY.A = V at *
  have i3 : Inv w V := ⟨hT.below hT.1 b2, b2⟩
  clear b2 i0
  go_upto_region 3 with fail
  generalize (Value.agg #[.int .i32 60, .int .i32 0, .int .i32 0, .int .u16 0, .int .u16 0, .int .u16 0, .int .u16 0, .int .u16 0, .int .u16 0, .int .u16 0, .int .u16 0, .int .u16 0, .int .u16 0, .int .u16 0, .int .u16 0, .int .u16 0, .int .u16 0, .int .u16 0, .int .u16 0]) = D0 at *
  generalize (Value.agg #[.int .i32 (-60), .int .i32 0, .int .i32 0, .int .u16 0, .int .u16 0, .int .u16 0, .int .u16 0, .int .u16 0, .int .u16 0, .int .u16 0, .int .u16 0, .int .u16 0, .int .u16 0, .int .u16 0, .int .u16 0, .int .u16 0, .int .u16 0, .int .u16 0, .int .u16 0]) = D1 at *
  generalize (Value.agg #[.int .i32 30, .int .i32 0, .int .i32 0, .int .u16 0, .int .u16 0, .int .u16 0, .int .u16 0, .int .u16 0, .int .u16 0, .int .u16 0, .int .u16 0, .int .u16 0, .int .u16 0, .int .u16 0, .int .u16 0, .int .u16 0, .int .u16 0, .int .u16 0, .int .u16 0]) = D2 at *
  go_cut [5] (fun v5 wx => ∃ (A A2 : Option Addr) (gp : Nat), v5 = .pointer (some ⟨gp, 0, none⟩) ∧ Blk wx w.heap.size 26 rcX.A ∧ Blk wx (w.heap.size + 1) 26 rcZ.A ∧ Blk wx (w.heap.size + 1 + 1) 26 rcY.A ∧ Inv w wx ∧ Blk wx gp 75 #[.int .i64 1999, .slice A 5 5, .slice A2 5 5] ∧ PlanR wx wx.heap.size 1999 A A2 5 5 [rcX, rcX, rcZ, rcY, rcY] [3, 0, 0, 0, 5])
  case first =>
    go_wp2_with (first | refine wpList_row_g rfl 26 _ rfl _ rfl _ _ _ _ x2 Tryd.underlying26 rfl (by kernel_rfl) ?_ | refine wpList_row_g rfl 26 _ rfl _ rfl _ _ _ _ y2 Tryd.underlying26 rfl (by kernel_rfl) ?_ | refine wpList_row_g rfl 26 _ rfl _ rfl _ _ _ _ v2 Tryd.underlying26 rfl (by kernel_rfl) ?_)
    go_meet
    exact ⟨_, _, _, rfl, ((x2.alloc _).alloc _).alloc _, ((y2.alloc _).alloc _).alloc _, ((v2.alloc _).alloc _).alloc _, ((i3.alloc _).alloc _).alloc _, blk_at _ _ _ (sz1 _ _ (sz1 V _ rfl)), plan5 (((Blk.new V 26 _).alloc _).alloc _) ((blk_at _ _ _ (sz1 V _ rfl)).alloc _)⟩
  case rest =>
  clear x2 y2 v2 i3
  obtain ⟨A, A2, gp, rfl, x4, y4, v4, i4, p4, hp⟩ := hcut
  obtain ⟨W, rfl⟩ : ∃ W : World, W = wc := ⟨_, rfl⟩
  go_upto_region 4 with fail
  go_cut [6, 7] (fun v6 v7 wx => ∃ (g6 gt : Nat), v6 = .pointer (some ⟨gt, 0, none⟩) ∧ v7 = .int .i64 0 ∧ Blk wx w.heap.size 26 rcX.A ∧ Blk wx (w.heap.size + 1) 26 rcZ.A ∧ Blk wx (w.heap.size + 1 + 1) 26 rcY.A ∧ Inv w wx ∧ Blk wx gp 75 #[.int .i64 1999, .slice A 5 5, .slice A2 5 5] ∧ PlanR wx wx.heap.size 1999 A A2 5 5 [rcX, rcX, rcZ, rcY, rcY] [3, 0, 0, 0, 5] ∧ Blk wx gt 40 (tbA 2000 2002 (some ⟨g6, 0, none⟩) 3 3) ∧ Recs wx wx.heap.size (some ⟨g6, 0, none⟩) 3 [rcX, rcZ, rcY])
  case first =>
    go_wp2_with (refine wpList_row_g rfl 75 _ rfl _ rfl _ _ _ _ p4 Tryd.underlying75 rfl (by kernel_rfl) ?_)
    refine (v_q1 i4.1 hp).mono ?_; rintro e w2 ⟨g6, rfl, hR6, hb2⟩
    go_wp2_with (refine wpList_store_new rfl 40 _ _ rfl rfl w2.heap.size (tbA 2000 2002 (some ⟨g6, 0, none⟩) 3 3) rfl rfl _ #[.int .i64 0, .int .i64 0, .slice none 0 0] w2 rfl rfl rfl (by kernel_rfl) (by kernel_rfl) ?_)
    go_meet
    exact ⟨g6, _, rfl, rfl, ((x4.below hb2 x4.lt).alloc _), ((y4.below hb2 y4.lt).alloc _), ((v4.below hb2 v4.lt).alloc _), ((i4.call hb2).alloc _), ((p4.below hb2 p4.lt).alloc _), ((hp.ca hb2).al _), Blk.new w2 _ _, recs_al hR6 _⟩
  case rest =>
  clear x4 y4 v4 i4 p4 hp
  obtain ⟨g6, gt, rfl, rfl, x4, y4, v4, i4, p4, hp, t6, R6⟩ := hcut
  obtain ⟨W4, rfl⟩ : ∃ W : World, W = wc := ⟨_, rfl⟩
  go_upto_region 5 with fail
  go_cut [8, 9] (fun v8 v9 wx => ∃ (g8 gu : Nat), v8 = .pointer (some ⟨gu, 0, none⟩) ∧ v9 = .int .i64 0 ∧ Blk wx w.heap.size 26 rcX.A ∧ Blk wx (w.heap.size + 1) 26 rcZ.A ∧ Blk wx (w.heap.size + 1 + 1) 26 rcY.A ∧ Inv w wx ∧ Blk wx gp 75 #[.int .i64 1999, .slice A 5 5, .slice A2 5 5] ∧ PlanR wx wx.heap.size 1999 A A2 5 5 [rcX, rcX, rcZ, rcY, rcY] [3, 0, 0, 0, 5] ∧ Blk wx gt 40 (tbA 2000 2002 (some ⟨g6, 0, none⟩) 3 3) ∧ Recs wx wx.heap.size (some ⟨g6, 0, none⟩) 3 [rcX, rcZ, rcY] ∧ Blk wx gu 40 (tbA 1999 1999 (some ⟨g8, 0, none⟩) 1 1) ∧ Recs wx wx.heap.size (some ⟨g8, 0, none⟩) 1 [rcX])
  case first =>
    go_wp2_with (refine wpList_row_g rfl 26 _ rfl _ rfl _ _ _ _ x4 Tryd.underlying26 rfl (by kernel_rfl) ?_)
    refine (v_q2 ((i4.alloc _).alloc _).1 (plan2 ((Blk.new _ 26 _).alloc _) (blk_at _ 85 _ (sz1 _ _ rfl)))).mono ?_; rintro e w2 ⟨g8, rfl, hR8, hb2⟩
    go_wp2_with (refine wpList_store_new rfl 40 _ _ rfl rfl w2.heap.size (tbA 1999 1999 (some ⟨g8, 0, none⟩) 1 1) rfl rfl _ #[.int .i64 0, .int .i64 0, .slice none 0 0] w2 rfl rfl rfl (by kernel_rfl) (by kernel_rfl) ?_)
    go_meet
    exact ⟨g8, _, rfl, rfl, ((((x4.alloc _).alloc _).below hb2 ((x4.alloc _).alloc _).lt).alloc _), ((((y4.alloc _).alloc _).below hb2 ((y4.alloc _).alloc _).lt).alloc _), ((((v4.alloc _).alloc _).below hb2 ((v4.alloc _).alloc _).lt).alloc _), ((((i4.alloc _).alloc _).call hb2).alloc _), ((((p4.alloc _).alloc _).below hb2 ((p4.alloc _).alloc _).lt).alloc _), ((((hp.al _).al _).ca hb2).al _), ((((t6.alloc _).alloc _).below hb2 ((t6.alloc _).alloc _).lt).alloc _), (recs_al (recs_ca (recs_al (recs_al R6 _) _) hb2) _), Blk.new w2 _ _, recs_al hR8 _⟩
  case rest =>
  clear x4 y4 v4 i4 p4 hp t6 R6
  obtain ⟨g8, gu, rfl, rfl, x4, y4, v4, i4, p4, hp, t6, R6, t8, R8⟩ := hcut
  obtain ⟨W5, rfl⟩ : ∃ W : World, W = wc := ⟨_, rfl⟩
  go_upto_region 6 with fail
  go_cut [11] (fun v11 wx => v11 = .int .i64 2 ∧ Blk wx w.heap.size 26 rcX.A ∧ Blk wx (w.heap.size + 1) 26 rcZ.A ∧ Blk wx (w.heap.size + 1 + 1) 26 rcY.A ∧ Inv w wx ∧ Blk wx gp 75 #[.int .i64 1999, .slice A 5 5, .slice A2 5 5] ∧ PlanR wx wx.heap.size 1999 A A2 5 5 [rcX, rcX, rcZ, rcY, rcY] [3, 0, 0, 0, 5] ∧ Blk wx gt 40 (tbA 2000 2002 (some ⟨g6, 0, none⟩) 3 3) ∧ Recs wx wx.heap.size (some ⟨g6, 0, none⟩) 3 [rcX, rcZ, rcY] ∧ Blk wx gu 40 (tbA 1999 1999 (some ⟨g8, 0, none⟩) 1 1) ∧ Recs wx wx.heap.size (some ⟨g8, 0, none⟩) 1 [rcX])
  case first =>
    go_wp2_with fail
    refine (v_q3 i4.1).mono ?_; rintro e w2 ⟨rfl, hb2⟩
    go_wp2_with (refine wpList_store_new rfl 40 _ _ rfl rfl w2.heap.size (tbA 0 0 none 0 0) rfl rfl _ #[.int .i64 0, .int .i64 0, .slice none 0 0] w2 rfl rfl rfl (by kernel_rfl) (by kernel_rfl) ?_)
    go_meet
    exact ⟨rfl, ((x4.below hb2 x4.lt).alloc _), ((y4.below hb2 y4.lt).alloc _), ((v4.below hb2 v4.lt).alloc _), ((i4.call hb2).alloc _), ((p4.below hb2 p4.lt).alloc _), ((hp.ca hb2).al _), ((t6.below hb2 t6.lt).alloc _), (recs_al (recs_ca R6 hb2) _), ((t8.below hb2 t8.lt).alloc _), (recs_al (recs_ca R8 hb2) _)⟩
  case rest =>
  clear x4 y4 v4 i4 p4 hp t6 R6 t8 R8
  obtain ⟨rfl, x4, y4, v4, i4, p4, hp, t6, R6, t8, R8⟩ := hcut
  obtain ⟨W6, rfl⟩ : ∃ W : World, W = wc := ⟨_, rfl⟩
  go_upto_region 7 with fail
  go_cut [12] (fun v12 wx => ∃ (A12 : Option Addr) (c12 : Nat), v12 = .slice A12 2 c12 ∧ Blk wx w.heap.size 26 rcX.A ∧ Blk wx (w.heap.size + 1) 26 rcZ.A ∧ Blk wx (w.heap.size + 1 + 1) 26 rcY.A ∧ Inv w wx ∧ Blk wx gp 75 #[.int .i64 1999, .slice A 5 5, .slice A2 5 5] ∧ PlanR wx wx.heap.size 1999 A A2 5 5 [rcX, rcX, rcZ, rcY, rcY] [3, 0, 0, 0, 5] ∧ Blk wx gt 40 (tbA 2000 2002 (some ⟨g6, 0, none⟩) 3 3) ∧ Recs wx wx.heap.size (some ⟨g6, 0, none⟩) 3 [rcX, rcZ, rcY] ∧ Blk wx gu 40 (tbA 1999 1999 (some ⟨g8, 0, none⟩) 1 1) ∧ Recs wx wx.heap.size (some ⟨g8, 0, none⟩) 1 [rcX] ∧ Mis wx wx.heap.size A12 2 ⟨#[107]⟩ [(1999, 3), (2003, 5)])
  case first =>
    go_wp2_with (refine wpList_row_g rfl 75 _ rfl _ rfl _ _ _ _ p4 Tryd.underlying75 rfl (by kernel_rfl) ?_)
    refine (v_ms i4.1 hp).mono ?_; rintro e w2 ⟨A12, c12, rfl, hM, hb2⟩
    go_wp2_with fail
    go_meet
    exact ⟨_, _, rfl, (x4.below hb2 x4.lt), (y4.below hb2 y4.lt), (v4.below hb2 v4.lt), (i4.call hb2), (p4.below hb2 p4.lt), (hp.ca hb2), (t6.below hb2 t6.lt), (recs_ca R6 hb2), (t8.below hb2 t8.lt), (recs_ca R8 hb2), hM⟩
  case rest =>
  clear x4 y4 v4 i4 p4 hp t6 R6 t8 R8
  obtain ⟨A12, c12, rfl, x4, y4, v4, i4, p4, hp, t6, R6, t8, R8, M12⟩ := hcut
  obtain ⟨W7, rfl⟩ : ∃ W : World, W = wc := ⟨_, rfl⟩
  go_wp2_with (first | refine wpList_row_g rfl 40 _ rfl _ rfl _ _ _ _ t6 Tryd.underlying40 rfl (by kernel_rfl) ?_ | refine wpList_row_g rfl 26 _ rfl _ rfl _ _ _ _ x4 Tryd.underlying26 rfl (by kernel_rfl) ?_ | refine wpList_row_g rfl 26 _ rfl _ rfl _ _ _ _ y4 Tryd.underlying26 rfl (by kernel_rfl) ?_ | refine wpList_row_g rfl 26 _ rfl _ rfl _ _ _ _ v4 Tryd.underlying26 rfl (by kernel_rfl) ?_)
  refine (v_s1 (recs_al R6 _) (recs_blk (Blk.new _ 26 _) rfl three_bd)).mono ?_; rintro e wk0 ⟨rfl, hk0⟩
  have x4_1 := ((x4.alloc _).below hk0 (x4.alloc _).lt)
  have y4_1 := ((y4.alloc _).below hk0 (y4.alloc _).lt)
  have v4_1 := ((v4.alloc _).below hk0 (v4.alloc _).lt)
  have i4_1 := ((i4.alloc _).call hk0)
  have p4_1 := ((p4.alloc _).below hk0 (p4.alloc _).lt)
  have hp_1 := ((hp.al _).ca hk0)
  have t6_1 := ((t6.alloc _).below hk0 (t6.alloc _).lt)
  have R6_1 := (recs_ca (recs_al R6 _) hk0)
  have t8_1 := ((t8.alloc _).below hk0 (t8.alloc _).lt)
  have R8_1 := (recs_ca (recs_al R8 _) hk0)
  have M12_1 := (mis_ca (mis_al M12 _) hk0)
  clear x4 y4 v4 i4 p4 hp t6 R6 t8 R8 M12 hk0
  go_wp2_with (first | refine wpList_row_g rfl 40 _ rfl _ rfl _ _ _ _ t6_1 Tryd.underlying40 rfl (by kernel_rfl) ?_ | refine wpList_row_g rfl 40 _ rfl _ rfl _ _ _ _ t8_1 Tryd.underlying40 rfl (by kernel_rfl) ?_ | refine wpList_row_g rfl 26 _ rfl _ rfl _ _ _ _ x4_1 Tryd.underlying26 rfl (by kernel_rfl) ?_ | refine wpList_row_g rfl 26 _ rfl _ rfl _ _ _ _ y4_1 Tryd.underlying26 rfl (by kernel_rfl) ?_ | refine wpList_row_g rfl 26 _ rfl _ rfl _ _ _ _ v4_1 Tryd.underlying26 rfl (by kernel_rfl) ?_)
  refine (v_s2 (recs_al R8_1 _) (recs_blk (Blk.new _ 26 _) rfl one_bd)).mono ?_; rintro e wk1 ⟨rfl, hk1⟩
  have x4_2 := ((x4_1.alloc _).below hk1 (x4_1.alloc _).lt)
  have y4_2 := ((y4_1.alloc _).below hk1 (y4_1.alloc _).lt)
  have v4_2 := ((v4_1.alloc _).below hk1 (v4_1.alloc _).lt)
  have i4_2 := ((i4_1.alloc _).call hk1)
  have p4_2 := ((p4_1.alloc _).below hk1 (p4_1.alloc _).lt)
  have hp_2 := ((hp_1.al _).ca hk1)
  have t6_2 := ((t6_1.alloc _).below hk1 (t6_1.alloc _).lt)
  have R6_2 := (recs_ca (recs_al R6_1 _) hk1)
  have t8_2 := ((t8_1.alloc _).below hk1 (t8_1.alloc _).lt)
  have R8_2 := (recs_ca (recs_al R8_1 _) hk1)
  have M12_2 := (mis_ca (mis_al M12_1 _) hk1)
  clear x4_1 y4_1 v4_1 i4_1 p4_1 hp_1 t6_1 R6_1 t8_1 R8_1 M12_1 hk1
  go_wp2_with (first | refine wpList_row_g rfl 40 _ rfl _ rfl _ _ _ _ t6_2 Tryd.underlying40 rfl (by kernel_rfl) ?_ | refine wpList_row_g rfl 40 _ rfl _ rfl _ _ _ _ t8_2 Tryd.underlying40 rfl (by kernel_rfl) ?_ | refine wpList_row_g rfl 75 _ rfl _ rfl _ _ _ _ p4_2 Tryd.underlying75 rfl (by kernel_rfl) ?_)
  refine (v_t1 i4_2.1 R6_2 hp_2).mono ?_; rintro e wk2 ⟨rfl, hk2⟩
  have x4_3 := (x4_2.below hk2 x4_2.lt)
  have y4_3 := (y4_2.below hk2 y4_2.lt)
  have v4_3 := (v4_2.below hk2 v4_2.lt)
  have i4_3 := (i4_2.call hk2)
  have p4_3 := (p4_2.below hk2 p4_2.lt)
  have hp_3 := (hp_2.ca hk2)
  have t6_3 := (t6_2.below hk2 t6_2.lt)
  have R6_3 := (recs_ca R6_2 hk2)
  have t8_3 := (t8_2.below hk2 t8_2.lt)
  have R8_3 := (recs_ca R8_2 hk2)
  have M12_3 := (mis_ca M12_2 hk2)
  clear x4_2 y4_2 v4_2 i4_2 p4_2 hp_2 t6_2 R6_2 t8_2 R8_2 M12_2 hk2
  go_wp2_with (first | refine wpList_row_g rfl 40 _ rfl _ rfl _ _ _ _ t6_3 Tryd.underlying40 rfl (by kernel_rfl) ?_ | refine wpList_row_g rfl 40 _ rfl _ rfl _ _ _ _ t8_3 Tryd.underlying40 rfl (by kernel_rfl) ?_ | refine wpList_row_g rfl 75 _ rfl _ rfl _ _ _ _ p4_3 Tryd.underlying75 rfl (by kernel_rfl) ?_)
  refine (v_t2 i4_3.1 R8_3 hp_3).mono ?_; rintro e wk3 ⟨rfl, hk3⟩
  have x4_4 := (x4_3.below hk3 x4_3.lt)
  have y4_4 := (y4_3.below hk3 y4_3.lt)
  have v4_4 := (v4_3.below hk3 v4_3.lt)
  have i4_4 := (i4_3.call hk3)
  have p4_4 := (p4_3.below hk3 p4_3.lt)
  have hp_4 := (hp_3.ca hk3)
  have t6_4 := (t6_3.below hk3 t6_3.lt)
  have R6_4 := (recs_ca R6_3 hk3)
  have t8_4 := (t8_3.below hk3 t8_3.lt)
  have R8_4 := (recs_ca R8_3 hk3)
  have M12_4 := (mis_ca M12_3 hk3)
  clear x4_3 y4_3 v4_3 i4_3 p4_3 hp_3 t6_3 R6_3 t8_3 R8_3 M12_3 hk3
  go_wp2_with fail
  refine (v_m (mis_al M12_4 _) (mis_blk (Blk.new _ 89 _) rfl)).mono ?_; rintro e wz ⟨rfl, hz⟩
  have iz := ((i4_4.alloc _).call hz)
  go_wp2_with fail
  go_ret
  exact ⟨rfl, iz.2⟩
end Go.Proofs.YtefcjccapekjdaaDoor.Sq
