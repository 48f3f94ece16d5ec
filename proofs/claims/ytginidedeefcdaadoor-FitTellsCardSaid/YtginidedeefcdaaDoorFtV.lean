/-
  FIT: 'lives' of the statements of fit, walked.
-/
import Derived.Test.YtginidedeefcdaaDoorFtU
namespace Go.Proofs.YtginidedeefcdaaDoor.Ft
open Go.ChangeShapes Go.WideShapes Go.ChangeAt Go.RowKit
open Go.Proofs.YtginidedeefcdaaDoor
open Go.Proofs.YtginidedeefcdaaDoor.Wd
open Go.Proofs.YtginidedeefcdaaDoor.Rec
open Go.Proofs.YtginidedeefcdaaDoor.Yr
open Go.Proofs.YtginidedeefcdaaDoor.Tb
open Go.Proofs.YtginidedeefcdaaDoor.Civ (Tab Inv)
set_option linter.unusedVariables false
set_option linter.unusedSimpArgs false
set_option maxRecDepth 100000 in
set_option maxHeartbeats 12800000 in
theorem lives_any (w : World) (hT : Tab w) :
    Calls Tryd.prog 12 #[] w fun e w' => e = .returned (.bool true) ∧ Below w.heap.size w w' := by
  have i0 := Inv.start hT
  go_enter Tryd.func12, Tryd.ntmps12
  go_wp2_with fail
  have l_1 := (Wd.Blk.new w 40 #[.int .i64 (915148800), .int .i64 (3600), .bool false, .int .i64 (922582800), .int .i64 (7200), .bool true, .int .i64 (941331600), .int .i64 (3600), .bool false])
  have inv_1 := (i0.alloc (.cells #[.int .i64 (915148800), .int .i64 (3600), .bool false, .int .i64 (922582800), .int .i64 (7200), .bool true, .int .i64 (941331600), .int .i64 (3600), .bool false] 40))
  refine (yv_1 inv_1.1 l_1).mono ?_; rintro e w_1 ⟨rfl, hb_1⟩
  have lc_1 := l_1.below hb_1 l_1.lt
  have invc_1 := inv_1.call hb_1
  clear l_1 inv_1 hb_1
  go_wp2_with (first | refine wpList_store_new rfl 28 _ _ rfl rfl w_1.heap.size #[.int .i32 (-60), .int .i32 (0), .int .i32 (-60), .int .u16 0, .int .u16 10, .int .u16 0, .int .u16 5, .int .u16 3, .int .u16 0, .int .u16 0, .int .u16 0, .int .u16 0, .int .u16 3, .int .u16 0, .int .u16 5, .int .u16 2, .int .u16 0, .int .u16 0, .int .u16 0] rfl rfl _ #[.int .i32 0, .int .i32 0, .int .i32 0, .int .u16 0, .int .u16 0, .int .u16 0, .int .u16 0, .int .u16 0, .int .u16 0, .int .u16 0, .int .u16 0, .int .u16 0, .int .u16 0, .int .u16 0, .int .u16 0, .int .u16 0, .int .u16 0, .int .u16 0, .int .u16 0] w_1 rfl rfl rfl (by kernel_rfl) (by kernel_rfl) ?_)
  have l_2 := ((lc_1.alloc (.cells #[.int .i32 (-60), .int .i32 (0), .int .i32 (-60), .int .u16 0, .int .u16 10, .int .u16 0, .int .u16 5, .int .u16 3, .int .u16 0, .int .u16 0, .int .u16 0, .int .u16 0, .int .u16 3, .int .u16 0, .int .u16 5, .int .u16 2, .int .u16 0, .int .u16 0, .int .u16 0] 28)).alloc (.cells #[.int .i64 (915148800), .int .i64 (20), .bool false] 40))
  have r_2 := ((Wd.Blk.new w_1 28 #[.int .i32 (-60), .int .i32 (0), .int .i32 (-60), .int .u16 0, .int .u16 10, .int .u16 0, .int .u16 5, .int .u16 3, .int .u16 0, .int .u16 0, .int .u16 0, .int .u16 0, .int .u16 3, .int .u16 0, .int .u16 5, .int .u16 2, .int .u16 0, .int .u16 0, .int .u16 0]).alloc (.cells #[.int .i64 (915148800), .int .i64 (20), .bool false] 40))
  have m_2 := (blk_at (w_1.alloc (.cells #[.int .i32 (-60), .int .i32 (0), .int .i32 (-60), .int .u16 0, .int .u16 10, .int .u16 0, .int .u16 5, .int .u16 3, .int .u16 0, .int .u16 0, .int .u16 0, .int .u16 0, .int .u16 3, .int .u16 0, .int .u16 5, .int .u16 2, .int .u16 0, .int .u16 0, .int .u16 0] 28)) 40 #[.int .i64 (915148800), .int .i64 (20), .bool false] (sz1 _ _ rfl))
  have inv_2 := ((invc_1.alloc (.cells #[.int .i32 (-60), .int .i32 (0), .int .i32 (-60), .int .u16 0, .int .u16 10, .int .u16 0, .int .u16 5, .int .u16 3, .int .u16 0, .int .u16 0, .int .u16 0, .int .u16 0, .int .u16 3, .int .u16 0, .int .u16 5, .int .u16 2, .int .u16 0, .int .u16 0, .int .u16 0] 28)).alloc (.cells #[.int .i64 (915148800), .int .i64 (20), .bool false] 40))
  refine (yv_2 inv_2.1 m_2).mono ?_; rintro e w_2 ⟨rfl, hb_2⟩
  have lc_2 := l_2.below hb_2 l_2.lt
  have rc_2 := r_2.below hb_2 r_2.lt
  have mc_2 := m_2.below hb_2 m_2.lt
  have invc_2 := inv_2.call hb_2
  clear l_2 r_2 m_2 inv_2 hb_2
  go_wp2_with (first | refine wpList_store_new rfl 28 _ _ rfl rfl w_2.heap.size #[.int .i32 (0), .int .i32 (0), .int .i32 (0), .int .u16 0, .int .u16 0, .int .u16 0, .int .u16 0, .int .u16 0, .int .u16 0, .int .u16 0, .int .u16 0, .int .u16 0, .int .u16 0, .int .u16 0, .int .u16 0, .int .u16 0, .int .u16 0, .int .u16 0, .int .u16 0] rfl rfl _ #[.int .i32 0, .int .i32 0, .int .i32 0, .int .u16 0, .int .u16 0, .int .u16 0, .int .u16 0, .int .u16 0, .int .u16 0, .int .u16 0, .int .u16 0, .int .u16 0, .int .u16 0, .int .u16 0, .int .u16 0, .int .u16 0, .int .u16 0, .int .u16 0, .int .u16 0] w_2 rfl rfl rfl (by kernel_rfl) (by kernel_rfl) ?_)
  have l_3 := (lc_2.alloc (.cells #[.int .i32 (0), .int .i32 (0), .int .i32 (0), .int .u16 0, .int .u16 0, .int .u16 0, .int .u16 0, .int .u16 0, .int .u16 0, .int .u16 0, .int .u16 0, .int .u16 0, .int .u16 0, .int .u16 0, .int .u16 0, .int .u16 0, .int .u16 0, .int .u16 0, .int .u16 0] 28))
  have r_3 := (rc_2.alloc (.cells #[.int .i32 (0), .int .i32 (0), .int .i32 (0), .int .u16 0, .int .u16 0, .int .u16 0, .int .u16 0, .int .u16 0, .int .u16 0, .int .u16 0, .int .u16 0, .int .u16 0, .int .u16 0, .int .u16 0, .int .u16 0, .int .u16 0, .int .u16 0, .int .u16 0, .int .u16 0] 28))
  have m_3 := (mc_2.alloc (.cells #[.int .i32 (0), .int .i32 (0), .int .i32 (0), .int .u16 0, .int .u16 0, .int .u16 0, .int .u16 0, .int .u16 0, .int .u16 0, .int .u16 0, .int .u16 0, .int .u16 0, .int .u16 0, .int .u16 0, .int .u16 0, .int .u16 0, .int .u16 0, .int .u16 0, .int .u16 0] 28))
  have s_3 := (Wd.Blk.new w_2 28 #[.int .i32 (0), .int .i32 (0), .int .i32 (0), .int .u16 0, .int .u16 0, .int .u16 0, .int .u16 0, .int .u16 0, .int .u16 0, .int .u16 0, .int .u16 0, .int .u16 0, .int .u16 0, .int .u16 0, .int .u16 0, .int .u16 0, .int .u16 0, .int .u16 0, .int .u16 0])
  have inv_3 := (invc_2.alloc (.cells #[.int .i32 (0), .int .i32 (0), .int .i32 (0), .int .u16 0, .int .u16 0, .int .u16 0, .int .u16 0, .int .u16 0, .int .u16 0, .int .u16 0, .int .u16 0, .int .u16 0, .int .u16 0, .int .u16 0, .int .u16 0, .int .u16 0, .int .u16 0, .int .u16 0, .int .u16 0] 28))
  refine (yv_3 inv_3.1 l_3).mono ?_; rintro e w_3 ⟨rfl, hb_3⟩
  have lc_3 := l_3.below hb_3 l_3.lt
  have rc_3 := r_3.below hb_3 r_3.lt
  have mc_3 := m_3.below hb_3 m_3.lt
  have sc_3 := s_3.below hb_3 s_3.lt
  have invc_3 := inv_3.call hb_3
  clear l_3 r_3 m_3 s_3 inv_3 hb_3
  go_wp2_with (first | refine wpList_store_new rfl 28 _ _ rfl rfl w_3.heap.size #[.int .i32 (-60), .int .i32 (0), .int .i32 (0), .int .u16 0, .int .u16 0, .int .u16 0, .int .u16 0, .int .u16 0, .int .u16 0, .int .u16 0, .int .u16 0, .int .u16 0, .int .u16 0, .int .u16 0, .int .u16 0, .int .u16 0, .int .u16 0, .int .u16 0, .int .u16 0] rfl rfl _ #[.int .i32 0, .int .i32 0, .int .i32 0, .int .u16 0, .int .u16 0, .int .u16 0, .int .u16 0, .int .u16 0, .int .u16 0, .int .u16 0, .int .u16 0, .int .u16 0, .int .u16 0, .int .u16 0, .int .u16 0, .int .u16 0, .int .u16 0, .int .u16 0, .int .u16 0] w_3 rfl rfl rfl (by kernel_rfl) (by kernel_rfl) ?_)
  have l_4 := (lc_3.alloc (.cells #[.int .i32 (-60), .int .i32 (0), .int .i32 (0), .int .u16 0, .int .u16 0, .int .u16 0, .int .u16 0, .int .u16 0, .int .u16 0, .int .u16 0, .int .u16 0, .int .u16 0, .int .u16 0, .int .u16 0, .int .u16 0, .int .u16 0, .int .u16 0, .int .u16 0, .int .u16 0] 28))
  have r_4 := (rc_3.alloc (.cells #[.int .i32 (-60), .int .i32 (0), .int .i32 (0), .int .u16 0, .int .u16 0, .int .u16 0, .int .u16 0, .int .u16 0, .int .u16 0, .int .u16 0, .int .u16 0, .int .u16 0, .int .u16 0, .int .u16 0, .int .u16 0, .int .u16 0, .int .u16 0, .int .u16 0, .int .u16 0] 28))
  have m_4 := (mc_3.alloc (.cells #[.int .i32 (-60), .int .i32 (0), .int .i32 (0), .int .u16 0, .int .u16 0, .int .u16 0, .int .u16 0, .int .u16 0, .int .u16 0, .int .u16 0, .int .u16 0, .int .u16 0, .int .u16 0, .int .u16 0, .int .u16 0, .int .u16 0, .int .u16 0, .int .u16 0, .int .u16 0] 28))
  have s_4 := (sc_3.alloc (.cells #[.int .i32 (-60), .int .i32 (0), .int .i32 (0), .int .u16 0, .int .u16 0, .int .u16 0, .int .u16 0, .int .u16 0, .int .u16 0, .int .u16 0, .int .u16 0, .int .u16 0, .int .u16 0, .int .u16 0, .int .u16 0, .int .u16 0, .int .u16 0, .int .u16 0, .int .u16 0] 28))
  have p_4 := (Wd.Blk.new w_3 28 #[.int .i32 (-60), .int .i32 (0), .int .i32 (0), .int .u16 0, .int .u16 0, .int .u16 0, .int .u16 0, .int .u16 0, .int .u16 0, .int .u16 0, .int .u16 0, .int .u16 0, .int .u16 0, .int .u16 0, .int .u16 0, .int .u16 0, .int .u16 0, .int .u16 0, .int .u16 0])
  have inv_4 := (invc_3.alloc (.cells #[.int .i32 (-60), .int .i32 (0), .int .i32 (0), .int .u16 0, .int .u16 0, .int .u16 0, .int .u16 0, .int .u16 0, .int .u16 0, .int .u16 0, .int .u16 0, .int .u16 0, .int .u16 0, .int .u16 0, .int .u16 0, .int .u16 0, .int .u16 0, .int .u16 0, .int .u16 0] 28))
  refine (yv_4 inv_4.1 l_4).mono ?_; rintro e w_4 ⟨rfl, hb_4⟩
  have lc_4 := l_4.below hb_4 l_4.lt
  have rc_4 := r_4.below hb_4 r_4.lt
  have mc_4 := m_4.below hb_4 m_4.lt
  have sc_4 := s_4.below hb_4 s_4.lt
  have pc_4 := p_4.below hb_4 p_4.lt
  have invc_4 := inv_4.call hb_4
  clear l_4 r_4 m_4 s_4 p_4 inv_4 hb_4
  go_wp2_with (first | refine wpList_store_new rfl 28 _ _ rfl rfl w_4.heap.size #[.int .i32 (0), .int .i32 (0), .int .i32 (0), .int .u16 0, .int .u16 0, .int .u16 0, .int .u16 0, .int .u16 0, .int .u16 0, .int .u16 0, .int .u16 0, .int .u16 0, .int .u16 0, .int .u16 0, .int .u16 0, .int .u16 0, .int .u16 0, .int .u16 0, .int .u16 0] rfl rfl _ #[.int .i32 0, .int .i32 0, .int .i32 0, .int .u16 0, .int .u16 0, .int .u16 0, .int .u16 0, .int .u16 0, .int .u16 0, .int .u16 0, .int .u16 0, .int .u16 0, .int .u16 0, .int .u16 0, .int .u16 0, .int .u16 0, .int .u16 0, .int .u16 0, .int .u16 0] w_4 rfl rfl rfl (by kernel_rfl) (by kernel_rfl) ?_)
  have l_5 := ((lc_4.alloc (.cells #[.int .i32 (0), .int .i32 (0), .int .i32 (0), .int .u16 0, .int .u16 0, .int .u16 0, .int .u16 0, .int .u16 0, .int .u16 0, .int .u16 0, .int .u16 0, .int .u16 0, .int .u16 0, .int .u16 0, .int .u16 0, .int .u16 0, .int .u16 0, .int .u16 0, .int .u16 0] 28)).alloc (.cells #[.int .i64 (915148800), .int .i64 (0), .bool false, .int .i64 (915148900), .int .i64 (60), .bool false] 40))
  have r_5 := ((rc_4.alloc (.cells #[.int .i32 (0), .int .i32 (0), .int .i32 (0), .int .u16 0, .int .u16 0, .int .u16 0, .int .u16 0, .int .u16 0, .int .u16 0, .int .u16 0, .int .u16 0, .int .u16 0, .int .u16 0, .int .u16 0, .int .u16 0, .int .u16 0, .int .u16 0, .int .u16 0, .int .u16 0] 28)).alloc (.cells #[.int .i64 (915148800), .int .i64 (0), .bool false, .int .i64 (915148900), .int .i64 (60), .bool false] 40))
  have m_5 := ((mc_4.alloc (.cells #[.int .i32 (0), .int .i32 (0), .int .i32 (0), .int .u16 0, .int .u16 0, .int .u16 0, .int .u16 0, .int .u16 0, .int .u16 0, .int .u16 0, .int .u16 0, .int .u16 0, .int .u16 0, .int .u16 0, .int .u16 0, .int .u16 0, .int .u16 0, .int .u16 0, .int .u16 0] 28)).alloc (.cells #[.int .i64 (915148800), .int .i64 (0), .bool false, .int .i64 (915148900), .int .i64 (60), .bool false] 40))
  have s_5 := ((sc_4.alloc (.cells #[.int .i32 (0), .int .i32 (0), .int .i32 (0), .int .u16 0, .int .u16 0, .int .u16 0, .int .u16 0, .int .u16 0, .int .u16 0, .int .u16 0, .int .u16 0, .int .u16 0, .int .u16 0, .int .u16 0, .int .u16 0, .int .u16 0, .int .u16 0, .int .u16 0, .int .u16 0] 28)).alloc (.cells #[.int .i64 (915148800), .int .i64 (0), .bool false, .int .i64 (915148900), .int .i64 (60), .bool false] 40))
  have p_5 := ((pc_4.alloc (.cells #[.int .i32 (0), .int .i32 (0), .int .i32 (0), .int .u16 0, .int .u16 0, .int .u16 0, .int .u16 0, .int .u16 0, .int .u16 0, .int .u16 0, .int .u16 0, .int .u16 0, .int .u16 0, .int .u16 0, .int .u16 0, .int .u16 0, .int .u16 0, .int .u16 0, .int .u16 0] 28)).alloc (.cells #[.int .i64 (915148800), .int .i64 (0), .bool false, .int .i64 (915148900), .int .i64 (60), .bool false] 40))
  have n_5 := (blk_at (w_4.alloc (.cells #[.int .i32 (0), .int .i32 (0), .int .i32 (0), .int .u16 0, .int .u16 0, .int .u16 0, .int .u16 0, .int .u16 0, .int .u16 0, .int .u16 0, .int .u16 0, .int .u16 0, .int .u16 0, .int .u16 0, .int .u16 0, .int .u16 0, .int .u16 0, .int .u16 0, .int .u16 0] 28)) 40 #[.int .i64 (915148800), .int .i64 (0), .bool false, .int .i64 (915148900), .int .i64 (60), .bool false] (sz1 _ _ rfl))
  have inv_5 := ((invc_4.alloc (.cells #[.int .i32 (0), .int .i32 (0), .int .i32 (0), .int .u16 0, .int .u16 0, .int .u16 0, .int .u16 0, .int .u16 0, .int .u16 0, .int .u16 0, .int .u16 0, .int .u16 0, .int .u16 0, .int .u16 0, .int .u16 0, .int .u16 0, .int .u16 0, .int .u16 0, .int .u16 0] 28)).alloc (.cells #[.int .i64 (915148800), .int .i64 (0), .bool false, .int .i64 (915148900), .int .i64 (60), .bool false] 40))
  refine (yv_5 inv_5.1 n_5).mono ?_; rintro e w_5 ⟨rfl, hb_5⟩
  have lc_5 := l_5.below hb_5 l_5.lt
  have rc_5 := r_5.below hb_5 r_5.lt
  have mc_5 := m_5.below hb_5 m_5.lt
  have sc_5 := s_5.below hb_5 s_5.lt
  have pc_5 := p_5.below hb_5 p_5.lt
  have nc_5 := n_5.below hb_5 n_5.lt
  have invc_5 := inv_5.call hb_5
  clear l_5 r_5 m_5 s_5 p_5 n_5 inv_5 hb_5
  go_wp2_with (first | refine wpList_store_new rfl 28 _ _ rfl rfl w_5.heap.size #[.int .i32 (0), .int .i32 (0), .int .i32 (0), .int .u16 0, .int .u16 0, .int .u16 0, .int .u16 0, .int .u16 0, .int .u16 0, .int .u16 0, .int .u16 0, .int .u16 0, .int .u16 0, .int .u16 0, .int .u16 0, .int .u16 0, .int .u16 0, .int .u16 0, .int .u16 0] rfl rfl _ #[.int .i32 0, .int .i32 0, .int .i32 0, .int .u16 0, .int .u16 0, .int .u16 0, .int .u16 0, .int .u16 0, .int .u16 0, .int .u16 0, .int .u16 0, .int .u16 0, .int .u16 0, .int .u16 0, .int .u16 0, .int .u16 0, .int .u16 0, .int .u16 0, .int .u16 0] w_5 rfl rfl rfl (by kernel_rfl) (by kernel_rfl) ?_)
  have l_6 := ((lc_5.alloc (.cells #[.int .i32 (0), .int .i32 (0), .int .i32 (0), .int .u16 0, .int .u16 0, .int .u16 0, .int .u16 0, .int .u16 0, .int .u16 0, .int .u16 0, .int .u16 0, .int .u16 0, .int .u16 0, .int .u16 0, .int .u16 0, .int .u16 0, .int .u16 0, .int .u16 0, .int .u16 0] 28)).alloc (.cells #[.int .i64 (915148800), .int .i64 (-3600), .bool false, .int .i64 (915148900), .int .i64 (60), .bool true] 40))
  have r_6 := ((rc_5.alloc (.cells #[.int .i32 (0), .int .i32 (0), .int .i32 (0), .int .u16 0, .int .u16 0, .int .u16 0, .int .u16 0, .int .u16 0, .int .u16 0, .int .u16 0, .int .u16 0, .int .u16 0, .int .u16 0, .int .u16 0, .int .u16 0, .int .u16 0, .int .u16 0, .int .u16 0, .int .u16 0] 28)).alloc (.cells #[.int .i64 (915148800), .int .i64 (-3600), .bool false, .int .i64 (915148900), .int .i64 (60), .bool true] 40))
  have m_6 := ((mc_5.alloc (.cells #[.int .i32 (0), .int .i32 (0), .int .i32 (0), .int .u16 0, .int .u16 0, .int .u16 0, .int .u16 0, .int .u16 0, .int .u16 0, .int .u16 0, .int .u16 0, .int .u16 0, .int .u16 0, .int .u16 0, .int .u16 0, .int .u16 0, .int .u16 0, .int .u16 0, .int .u16 0] 28)).alloc (.cells #[.int .i64 (915148800), .int .i64 (-3600), .bool false, .int .i64 (915148900), .int .i64 (60), .bool true] 40))
  have s_6 := ((sc_5.alloc (.cells #[.int .i32 (0), .int .i32 (0), .int .i32 (0), .int .u16 0, .int .u16 0, .int .u16 0, .int .u16 0, .int .u16 0, .int .u16 0, .int .u16 0, .int .u16 0, .int .u16 0, .int .u16 0, .int .u16 0, .int .u16 0, .int .u16 0, .int .u16 0, .int .u16 0, .int .u16 0] 28)).alloc (.cells #[.int .i64 (915148800), .int .i64 (-3600), .bool false, .int .i64 (915148900), .int .i64 (60), .bool true] 40))
  have p_6 := ((pc_5.alloc (.cells #[.int .i32 (0), .int .i32 (0), .int .i32 (0), .int .u16 0, .int .u16 0, .int .u16 0, .int .u16 0, .int .u16 0, .int .u16 0, .int .u16 0, .int .u16 0, .int .u16 0, .int .u16 0, .int .u16 0, .int .u16 0, .int .u16 0, .int .u16 0, .int .u16 0, .int .u16 0] 28)).alloc (.cells #[.int .i64 (915148800), .int .i64 (-3600), .bool false, .int .i64 (915148900), .int .i64 (60), .bool true] 40))
  have n_6 := ((nc_5.alloc (.cells #[.int .i32 (0), .int .i32 (0), .int .i32 (0), .int .u16 0, .int .u16 0, .int .u16 0, .int .u16 0, .int .u16 0, .int .u16 0, .int .u16 0, .int .u16 0, .int .u16 0, .int .u16 0, .int .u16 0, .int .u16 0, .int .u16 0, .int .u16 0, .int .u16 0, .int .u16 0] 28)).alloc (.cells #[.int .i64 (915148800), .int .i64 (-3600), .bool false, .int .i64 (915148900), .int .i64 (60), .bool true] 40))
  have o_6 := (blk_at (w_5.alloc (.cells #[.int .i32 (0), .int .i32 (0), .int .i32 (0), .int .u16 0, .int .u16 0, .int .u16 0, .int .u16 0, .int .u16 0, .int .u16 0, .int .u16 0, .int .u16 0, .int .u16 0, .int .u16 0, .int .u16 0, .int .u16 0, .int .u16 0, .int .u16 0, .int .u16 0, .int .u16 0] 28)) 40 #[.int .i64 (915148800), .int .i64 (-3600), .bool false, .int .i64 (915148900), .int .i64 (60), .bool true] (sz1 _ _ rfl))
  have inv_6 := ((invc_5.alloc (.cells #[.int .i32 (0), .int .i32 (0), .int .i32 (0), .int .u16 0, .int .u16 0, .int .u16 0, .int .u16 0, .int .u16 0, .int .u16 0, .int .u16 0, .int .u16 0, .int .u16 0, .int .u16 0, .int .u16 0, .int .u16 0, .int .u16 0, .int .u16 0, .int .u16 0, .int .u16 0] 28)).alloc (.cells #[.int .i64 (915148800), .int .i64 (-3600), .bool false, .int .i64 (915148900), .int .i64 (60), .bool true] 40))
  refine (yv_6 inv_6.1 o_6).mono ?_; rintro e w_6 ⟨rfl, hb_6⟩
  have lc_6 := l_6.below hb_6 l_6.lt
  have rc_6 := r_6.below hb_6 r_6.lt
  have mc_6 := m_6.below hb_6 m_6.lt
  have sc_6 := s_6.below hb_6 s_6.lt
  have pc_6 := p_6.below hb_6 p_6.lt
  have nc_6 := n_6.below hb_6 n_6.lt
  have oc_6 := o_6.below hb_6 o_6.lt
  have invc_6 := inv_6.call hb_6
  clear l_6 r_6 m_6 s_6 p_6 n_6 o_6 inv_6 hb_6
  go_wp2_with (first | refine wpList_store_new rfl 28 _ _ rfl rfl w_6.heap.size #[.int .i32 (0), .int .i32 (0), .int .i32 (0), .int .u16 0, .int .u16 0, .int .u16 0, .int .u16 0, .int .u16 0, .int .u16 0, .int .u16 0, .int .u16 0, .int .u16 0, .int .u16 0, .int .u16 0, .int .u16 0, .int .u16 0, .int .u16 0, .int .u16 0, .int .u16 0] rfl rfl _ #[.int .i32 0, .int .i32 0, .int .i32 0, .int .u16 0, .int .u16 0, .int .u16 0, .int .u16 0, .int .u16 0, .int .u16 0, .int .u16 0, .int .u16 0, .int .u16 0, .int .u16 0, .int .u16 0, .int .u16 0, .int .u16 0, .int .u16 0, .int .u16 0, .int .u16 0] w_6 rfl rfl rfl (by kernel_rfl) (by kernel_rfl) ?_)
  have l_7 := (lc_6.alloc (.cells #[.int .i32 (0), .int .i32 (0), .int .i32 (0), .int .u16 0, .int .u16 0, .int .u16 0, .int .u16 0, .int .u16 0, .int .u16 0, .int .u16 0, .int .u16 0, .int .u16 0, .int .u16 0, .int .u16 0, .int .u16 0, .int .u16 0, .int .u16 0, .int .u16 0, .int .u16 0] 28))
  have r_7 := (rc_6.alloc (.cells #[.int .i32 (0), .int .i32 (0), .int .i32 (0), .int .u16 0, .int .u16 0, .int .u16 0, .int .u16 0, .int .u16 0, .int .u16 0, .int .u16 0, .int .u16 0, .int .u16 0, .int .u16 0, .int .u16 0, .int .u16 0, .int .u16 0, .int .u16 0, .int .u16 0, .int .u16 0] 28))
  have m_7 := (mc_6.alloc (.cells #[.int .i32 (0), .int .i32 (0), .int .i32 (0), .int .u16 0, .int .u16 0, .int .u16 0, .int .u16 0, .int .u16 0, .int .u16 0, .int .u16 0, .int .u16 0, .int .u16 0, .int .u16 0, .int .u16 0, .int .u16 0, .int .u16 0, .int .u16 0, .int .u16 0, .int .u16 0] 28))
  have s_7 := (sc_6.alloc (.cells #[.int .i32 (0), .int .i32 (0), .int .i32 (0), .int .u16 0, .int .u16 0, .int .u16 0, .int .u16 0, .int .u16 0, .int .u16 0, .int .u16 0, .int .u16 0, .int .u16 0, .int .u16 0, .int .u16 0, .int .u16 0, .int .u16 0, .int .u16 0, .int .u16 0, .int .u16 0] 28))
  have p_7 := (pc_6.alloc (.cells #[.int .i32 (0), .int .i32 (0), .int .i32 (0), .int .u16 0, .int .u16 0, .int .u16 0, .int .u16 0, .int .u16 0, .int .u16 0, .int .u16 0, .int .u16 0, .int .u16 0, .int .u16 0, .int .u16 0, .int .u16 0, .int .u16 0, .int .u16 0, .int .u16 0, .int .u16 0] 28))
  have n_7 := (nc_6.alloc (.cells #[.int .i32 (0), .int .i32 (0), .int .i32 (0), .int .u16 0, .int .u16 0, .int .u16 0, .int .u16 0, .int .u16 0, .int .u16 0, .int .u16 0, .int .u16 0, .int .u16 0, .int .u16 0, .int .u16 0, .int .u16 0, .int .u16 0, .int .u16 0, .int .u16 0, .int .u16 0] 28))
  have o_7 := (oc_6.alloc (.cells #[.int .i32 (0), .int .i32 (0), .int .i32 (0), .int .u16 0, .int .u16 0, .int .u16 0, .int .u16 0, .int .u16 0, .int .u16 0, .int .u16 0, .int .u16 0, .int .u16 0, .int .u16 0, .int .u16 0, .int .u16 0, .int .u16 0, .int .u16 0, .int .u16 0, .int .u16 0] 28))
  have inv_7 := (invc_6.alloc (.cells #[.int .i32 (0), .int .i32 (0), .int .i32 (0), .int .u16 0, .int .u16 0, .int .u16 0, .int .u16 0, .int .u16 0, .int .u16 0, .int .u16 0, .int .u16 0, .int .u16 0, .int .u16 0, .int .u16 0, .int .u16 0, .int .u16 0, .int .u16 0, .int .u16 0, .int .u16 0] 28))
  refine (ends_1999 inv_7.1).mono ?_; rintro e w_7 ⟨rfl, hb_7⟩
  have lc_7 := l_7.below hb_7 l_7.lt
  have rc_7 := r_7.below hb_7 r_7.lt
  have mc_7 := m_7.below hb_7 m_7.lt
  have sc_7 := s_7.below hb_7 s_7.lt
  have pc_7 := p_7.below hb_7 p_7.lt
  have nc_7 := n_7.below hb_7 n_7.lt
  have oc_7 := o_7.below hb_7 o_7.lt
  have invc_7 := inv_7.call hb_7
  clear l_7 r_7 m_7 s_7 p_7 n_7 o_7 inv_7 hb_7
  have xa7 := (Blk.new w_7 26 #[.int .u16 0, .int .u16 0, .int .u16 0, .int .u16 0, .int .u16 0, .int .u16 0, .int .u16 0, .int .u16 0]).alloc (.cells #[.int .u16 0, .int .u16 0, .int .u16 0, .int .u16 0, .int .u16 0, .int .u16 0, .int .u16 0, .int .u16 0] 26)
  have ya7 : Blk ((w_7.alloc (.cells #[.int .u16 0, .int .u16 0, .int .u16 0, .int .u16 0, .int .u16 0, .int .u16 0, .int .u16 0, .int .u16 0] 26)).alloc (.cells #[.int .u16 0, .int .u16 0, .int .u16 0, .int .u16 0, .int .u16 0, .int .u16 0, .int .u16 0, .int .u16 0] 26)) (w_7.heap.size + 1) 26 #[.int .u16 0, .int .u16 0, .int .u16 0, .int .u16 0, .int .u16 0, .int .u16 0, .int .u16 0, .int .u16 0] := blk_at _ _ _ (sz1 w_7 _ rfl)
  have yb7 := Blk.rowFar ya7 (show w_7.heap.size + 1 ≠ w_7.heap.size by omega) #[.int .u16 0, .int .u16 1, .int .u16 5, .int .u16 1, .int .u16 0, .int .u16 0, .int .u16 0, .int .u16 0]
  have hw7 := two_rows w_7 26 #[.int .u16 0, .int .u16 1, .int .u16 5, .int .u16 1, .int .u16 0, .int .u16 0, .int .u16 0, .int .u16 0] #[.int .u16 0, .int .u16 12, .int .u16 5, .int .u16 5, .int .u16 23, .int .u16 59, .int .u16 59, .int .u16 999] #[.int .u16 0, .int .u16 0, .int .u16 0, .int .u16 0, .int .u16 0, .int .u16 0, .int .u16 0, .int .u16 0] rfl rfl
  go_upto_region 9 with (first
    | (refine wpList_store_g rfl 26 _ _ rfl rfl _ 0 #[.int .u16 0, .int .u16 1, .int .u16 5, .int .u16 1, .int .u16 0, .int .u16 0, .int .u16 0, .int .u16 0] #[.int .u16 0, .int .u16 1, .int .u16 5, .int .u16 1, .int .u16 0, .int .u16 0, .int .u16 0, .int .u16 0] rfl rfl _ _ xa7 (by show 0 + 8 ≤ 8; decide) (by kernel_rfl) (by kernel_rfl) (by kernel_rfl) ?_)
    | (refine wpList_store_g rfl 26 _ _ rfl rfl _ 0 #[.int .u16 0, .int .u16 12, .int .u16 5, .int .u16 5, .int .u16 23, .int .u16 59, .int .u16 59, .int .u16 999] #[.int .u16 0, .int .u16 12, .int .u16 5, .int .u16 5, .int .u16 23, .int .u16 59, .int .u16 59, .int .u16 999] rfl rfl _ _ yb7 (by show 0 + 8 ≤ 8; decide) (by kernel_rfl) (by kernel_rfl) (by kernel_rfl) ?_; rw [hw7]))
  clear xa7 ya7 yb7 hw7
  have r_8 := ((rc_7.alloc (.cells #[.int .u16 0, .int .u16 1, .int .u16 5, .int .u16 1, .int .u16 0, .int .u16 0, .int .u16 0, .int .u16 0] 26)).alloc (.cells #[.int .u16 0, .int .u16 12, .int .u16 5, .int .u16 5, .int .u16 23, .int .u16 59, .int .u16 59, .int .u16 999] 26))
  have s_8 := ((sc_7.alloc (.cells #[.int .u16 0, .int .u16 1, .int .u16 5, .int .u16 1, .int .u16 0, .int .u16 0, .int .u16 0, .int .u16 0] 26)).alloc (.cells #[.int .u16 0, .int .u16 12, .int .u16 5, .int .u16 5, .int .u16 23, .int .u16 59, .int .u16 59, .int .u16 999] 26))
  have p_8 := ((pc_7.alloc (.cells #[.int .u16 0, .int .u16 1, .int .u16 5, .int .u16 1, .int .u16 0, .int .u16 0, .int .u16 0, .int .u16 0] 26)).alloc (.cells #[.int .u16 0, .int .u16 12, .int .u16 5, .int .u16 5, .int .u16 23, .int .u16 59, .int .u16 59, .int .u16 999] 26))
  have x_8 := ((Wd.Blk.new w_7 26 #[.int .u16 0, .int .u16 1, .int .u16 5, .int .u16 1, .int .u16 0, .int .u16 0, .int .u16 0, .int .u16 0]).alloc (.cells #[.int .u16 0, .int .u16 12, .int .u16 5, .int .u16 5, .int .u16 23, .int .u16 59, .int .u16 59, .int .u16 999] 26))
  have y_8 := (blk_at (w_7.alloc (.cells #[.int .u16 0, .int .u16 1, .int .u16 5, .int .u16 1, .int .u16 0, .int .u16 0, .int .u16 0, .int .u16 0] 26)) 26 #[.int .u16 0, .int .u16 12, .int .u16 5, .int .u16 5, .int .u16 23, .int .u16 59, .int .u16 59, .int .u16 999] (sz1 _ _ rfl))
  have inv_8 := ((invc_7.alloc (.cells #[.int .u16 0, .int .u16 1, .int .u16 5, .int .u16 1, .int .u16 0, .int .u16 0, .int .u16 0, .int .u16 0] 26)).alloc (.cells #[.int .u16 0, .int .u16 12, .int .u16 5, .int .u16 5, .int .u16 23, .int .u16 59, .int .u16 59, .int .u16 999] 26))
  go_cut [2, 3, 4, 5, 6, 7, 8, 10, 13, 15, 18, 20, 21, 22, 23, 24] from 1 to 152 (fun v2 v3 v4 v5 v6 v7 v8 v10 v13 v15 v18 v20 v21 v22 v23 v24 wx => ∃ gr gs gp gx gy gz : Nat, v2 = .pointer (some ⟨gr, 0, none⟩) ∧ v3 = .int .u8 0 ∧ v4 = .int .i64 0 ∧ v5 = .pointer (some ⟨gs, 0, none⟩) ∧ v6 = .int .u8 1 ∧ v7 = .int .i64 0 ∧ v8 = .pointer (some ⟨gp, 0, none⟩) ∧ v10 = .int .i64 0 ∧ v13 = .int .i64 2 ∧ v15 = .int .u8 4 ∧ v18 = .int .u8 5 ∧ v20 = .pointer (some ⟨gx, 0, none⟩) ∧ v21 = .pointer (some ⟨gy, 0, none⟩) ∧ v22 = .int .i64 0 ∧ v23 = .pointer (some ⟨gz, 0, none⟩) ∧ v24 = .int .i64 0 ∧ Inv w wx ∧ Blk wx gr 28 #[.int .i32 (-60), .int .i32 (0), .int .i32 (-60), .int .u16 0, .int .u16 10, .int .u16 0, .int .u16 5, .int .u16 3, .int .u16 0, .int .u16 0, .int .u16 0, .int .u16 0, .int .u16 3, .int .u16 0, .int .u16 5, .int .u16 2, .int .u16 0, .int .u16 0, .int .u16 0] ∧ Blk wx gs 28 #[.int .i32 (0), .int .i32 (0), .int .i32 (0), .int .u16 0, .int .u16 0, .int .u16 0, .int .u16 0, .int .u16 0, .int .u16 0, .int .u16 0, .int .u16 0, .int .u16 0, .int .u16 0, .int .u16 0, .int .u16 0, .int .u16 0, .int .u16 0, .int .u16 0, .int .u16 0] ∧ Blk wx gp 28 #[.int .i32 (-60), .int .i32 (0), .int .i32 (0), .int .u16 0, .int .u16 0, .int .u16 0, .int .u16 0, .int .u16 0, .int .u16 0, .int .u16 0, .int .u16 0, .int .u16 0, .int .u16 0, .int .u16 0, .int .u16 0, .int .u16 0, .int .u16 0, .int .u16 0, .int .u16 0] ∧ Blk wx gx 26 #[.int .u16 0, .int .u16 1, .int .u16 5, .int .u16 1, .int .u16 0, .int .u16 0, .int .u16 0, .int .u16 0] ∧ Blk wx gy 26 #[.int .u16 0, .int .u16 12, .int .u16 5, .int .u16 5, .int .u16 23, .int .u16 59, .int .u16 59, .int .u16 999] ∧ Blk wx gz 26 #[.int .u16 0, .int .u16 1, .int .u16 4, .int .u16 1, .int .u16 0, .int .u16 0, .int .u16 0, .int .u16 0])
  case first =>
    go_wp2_with fail
    have r_9 := r_8
    have s_9 := s_8
    have p_9 := p_8
    have x_9 := x_8
    have y_9 := y_8
    have inv_9 := inv_8
    refine (stamp_0 inv_9.1).mono ?_; rintro e w_9 ⟨rfl, hb_9⟩
    have rc_9 := r_9.below hb_9 r_9.lt
    have sc_9 := s_9.below hb_9 s_9.lt
    have pc_9 := p_9.below hb_9 p_9.lt
    have xc_9 := x_9.below hb_9 x_9.lt
    have yc_9 := y_9.below hb_9 y_9.lt
    have invc_9 := inv_9.call hb_9
    clear r_9 s_9 p_9 x_9 y_9 inv_9 hb_9
    go_wp2_with (first | refine wpList_store_new rfl 26 _ _ rfl rfl w_9.heap.size #[.int .u16 0, .int .u16 1, .int .u16 4, .int .u16 1, .int .u16 0, .int .u16 0, .int .u16 0, .int .u16 0] rfl rfl _ #[.int .u16 0, .int .u16 0, .int .u16 0, .int .u16 0, .int .u16 0, .int .u16 0, .int .u16 0, .int .u16 0] w_9 rfl rfl rfl (by kernel_rfl) (by kernel_rfl) ?_)
    have r_10 := (rc_9.alloc (.cells #[.int .u16 0, .int .u16 1, .int .u16 4, .int .u16 1, .int .u16 0, .int .u16 0, .int .u16 0, .int .u16 0] 26))
    have s_10 := (sc_9.alloc (.cells #[.int .u16 0, .int .u16 1, .int .u16 4, .int .u16 1, .int .u16 0, .int .u16 0, .int .u16 0, .int .u16 0] 26))
    have p_10 := (pc_9.alloc (.cells #[.int .u16 0, .int .u16 1, .int .u16 4, .int .u16 1, .int .u16 0, .int .u16 0, .int .u16 0, .int .u16 0] 26))
    have x_10 := (xc_9.alloc (.cells #[.int .u16 0, .int .u16 1, .int .u16 4, .int .u16 1, .int .u16 0, .int .u16 0, .int .u16 0, .int .u16 0] 26))
    have y_10 := (yc_9.alloc (.cells #[.int .u16 0, .int .u16 1, .int .u16 4, .int .u16 1, .int .u16 0, .int .u16 0, .int .u16 0, .int .u16 0] 26))
    have z_10 := (Wd.Blk.new w_9 26 #[.int .u16 0, .int .u16 1, .int .u16 4, .int .u16 1, .int .u16 0, .int .u16 0, .int .u16 0, .int .u16 0])
    have inv_10 := (invc_9.alloc (.cells #[.int .u16 0, .int .u16 1, .int .u16 4, .int .u16 1, .int .u16 0, .int .u16 0, .int .u16 0, .int .u16 0] 26))
    go_meet
    exact ⟨_, _, _, _, _, _, rfl, rfl, rfl, rfl, rfl, rfl, rfl, rfl, rfl, rfl, rfl, rfl, rfl, rfl, rfl, rfl, inv_10, r_10, s_10, p_10, x_10, y_10, z_10⟩
  case rest =>
    obtain ⟨gr, gs, gp, gx, gy, gz, rfl, rfl, rfl, rfl, rfl, rfl, rfl, rfl, rfl, rfl, rfl, rfl, rfl, rfl, rfl, rfl, hi, hr, hs, hp, hx, hy, hz⟩ := hcut
    have r_11 := (hr.alloc (.cells #[.int .i32 (-60), .int .i32 (0), .int .i32 (-60), .int .u16 0, .int .u16 10, .int .u16 0, .int .u16 5, .int .u16 3, .int .u16 0, .int .u16 0, .int .u16 0, .int .u16 0, .int .u16 3, .int .u16 0, .int .u16 5, .int .u16 2, .int .u16 0, .int .u16 0, .int .u16 0] 28))
    have s_11 := (hs.alloc (.cells #[.int .i32 (-60), .int .i32 (0), .int .i32 (-60), .int .u16 0, .int .u16 10, .int .u16 0, .int .u16 5, .int .u16 3, .int .u16 0, .int .u16 0, .int .u16 0, .int .u16 0, .int .u16 3, .int .u16 0, .int .u16 5, .int .u16 2, .int .u16 0, .int .u16 0, .int .u16 0] 28))
    have p_11 := (hp.alloc (.cells #[.int .i32 (-60), .int .i32 (0), .int .i32 (-60), .int .u16 0, .int .u16 10, .int .u16 0, .int .u16 5, .int .u16 3, .int .u16 0, .int .u16 0, .int .u16 0, .int .u16 0, .int .u16 3, .int .u16 0, .int .u16 5, .int .u16 2, .int .u16 0, .int .u16 0, .int .u16 0] 28))
    have x_11 := (hx.alloc (.cells #[.int .i32 (-60), .int .i32 (0), .int .i32 (-60), .int .u16 0, .int .u16 10, .int .u16 0, .int .u16 5, .int .u16 3, .int .u16 0, .int .u16 0, .int .u16 0, .int .u16 0, .int .u16 3, .int .u16 0, .int .u16 5, .int .u16 2, .int .u16 0, .int .u16 0, .int .u16 0] 28))
    have y_11 := (hy.alloc (.cells #[.int .i32 (-60), .int .i32 (0), .int .i32 (-60), .int .u16 0, .int .u16 10, .int .u16 0, .int .u16 5, .int .u16 3, .int .u16 0, .int .u16 0, .int .u16 0, .int .u16 0, .int .u16 3, .int .u16 0, .int .u16 5, .int .u16 2, .int .u16 0, .int .u16 0, .int .u16 0] 28))
    have z_11 := (hz.alloc (.cells #[.int .i32 (-60), .int .i32 (0), .int .i32 (-60), .int .u16 0, .int .u16 10, .int .u16 0, .int .u16 5, .int .u16 3, .int .u16 0, .int .u16 0, .int .u16 0, .int .u16 0, .int .u16 3, .int .u16 0, .int .u16 5, .int .u16 2, .int .u16 0, .int .u16 0, .int .u16 0] 28))
    have want_11 := (Wd.Blk.new wc 28 #[.int .i32 (-60), .int .i32 (0), .int .i32 (-60), .int .u16 0, .int .u16 10, .int .u16 0, .int .u16 5, .int .u16 3, .int .u16 0, .int .u16 0, .int .u16 0, .int .u16 0, .int .u16 3, .int .u16 0, .int .u16 5, .int .u16 2, .int .u16 0, .int .u16 0, .int .u16 0])
    have inv_11 := (hi.alloc (.cells #[.int .i32 (-60), .int .i32 (0), .int .i32 (-60), .int .u16 0, .int .u16 10, .int .u16 0, .int .u16 5, .int .u16 3, .int .u16 0, .int .u16 0, .int .u16 0, .int .u16 0, .int .u16 3, .int .u16 0, .int .u16 5, .int .u16 2, .int .u16 0, .int .u16 0, .int .u16 0] 28))
    have hq1 : ∀ w, (binOp .eql 28 (.agg #[.int .i32 (-60), .int .i32 (0), .int .i32 (-60), .int .u16 0, .int .u16 10, .int .u16 0, .int .u16 5, .int .u16 3, .int .u16 0, .int .u16 0, .int .u16 0, .int .u16 0, .int .u16 3, .int .u16 0, .int .u16 5, .int .u16 2, .int .u16 0, .int .u16 0, .int .u16 0]) (.agg #[.int .i32 (-60), .int .i32 (0), .int .i32 (-60), .int .u16 0, .int .u16 10, .int .u16 0, .int .u16 5, .int .u16 3, .int .u16 0, .int .u16 0, .int .u16 0, .int .u16 0, .int .u16 3, .int .u16 0, .int .u16 5, .int .u16 2, .int .u16 0, .int .u16 0, .int .u16 0])).run Tryd.prog w = .ok (.bool true) w := fun w => (eq_rc (-60) 0 (-60) (-60) 0 (-60) ⟨0, 10, 0, 5, 3, 0, 0, 0⟩ ⟨0, 3, 0, 5, 2, 0, 0, 0⟩ ⟨0, 10, 0, 5, 3, 0, 0, 0⟩ ⟨0, 3, 0, 5, 2, 0, 0, 0⟩ w).trans (by rw [show eqR (-60) 0 (-60) ⟨0, 10, 0, 5, 3, 0, 0, 0⟩ ⟨0, 3, 0, 5, 2, 0, 0, 0⟩ (-60) 0 (-60) ⟨0, 10, 0, 5, 3, 0, 0, 0⟩ ⟨0, 3, 0, 5, 2, 0, 0, 0⟩ = true by decide])
    have hq2 : ∀ w, (binOp .eql 28 (.agg #[.int .i32 (0), .int .i32 (0), .int .i32 (0), .int .u16 0, .int .u16 0, .int .u16 0, .int .u16 0, .int .u16 0, .int .u16 0, .int .u16 0, .int .u16 0, .int .u16 0, .int .u16 0, .int .u16 0, .int .u16 0, .int .u16 0, .int .u16 0, .int .u16 0, .int .u16 0]) (.agg #[.int .i32 (0), .int .i32 (0), .int .i32 (0), .int .u16 0, .int .u16 0, .int .u16 0, .int .u16 0, .int .u16 0, .int .u16 0, .int .u16 0, .int .u16 0, .int .u16 0, .int .u16 0, .int .u16 0, .int .u16 0, .int .u16 0, .int .u16 0, .int .u16 0, .int .u16 0])).run Tryd.prog w = .ok (.bool true) w := fun w => (eq_rc 0 0 0 0 0 0 St.nil St.nil St.nil St.nil w).trans (by rw [show eqR 0 0 0 St.nil St.nil 0 0 0 St.nil St.nil = true by decide])
    have hq3 : ∀ w, (binOp .eql 28 (.agg #[.int .i32 (-60), .int .i32 (0), .int .i32 (0), .int .u16 0, .int .u16 0, .int .u16 0, .int .u16 0, .int .u16 0, .int .u16 0, .int .u16 0, .int .u16 0, .int .u16 0, .int .u16 0, .int .u16 0, .int .u16 0, .int .u16 0, .int .u16 0, .int .u16 0, .int .u16 0]) (.agg #[.int .i32 (-60), .int .i32 (0), .int .i32 (0), .int .u16 0, .int .u16 0, .int .u16 0, .int .u16 0, .int .u16 0, .int .u16 0, .int .u16 0, .int .u16 0, .int .u16 0, .int .u16 0, .int .u16 0, .int .u16 0, .int .u16 0, .int .u16 0, .int .u16 0, .int .u16 0])).run Tryd.prog w = .ok (.bool true) w := fun w => (eq_rc (-60) 0 0 (-60) 0 0 St.nil St.nil St.nil St.nil w).trans (by rw [show eqR (-60) 0 0 St.nil St.nil (-60) 0 0 St.nil St.nil = true by decide])
    have hq4 : ∀ w, (binOp .eql 26 (.agg #[.int .u16 0, .int .u16 1, .int .u16 5, .int .u16 1, .int .u16 0, .int .u16 0, .int .u16 0, .int .u16 0]) (.agg #[.int .u16 0, .int .u16 1, .int .u16 5, .int .u16 1, .int .u16 0, .int .u16 0, .int .u16 0, .int .u16 0])).run Tryd.prog w = .ok (.bool true) w := fun w => (eq_stt ⟨0, 1, 5, 1, 0, 0, 0, 0⟩ ⟨0, 1, 5, 1, 0, 0, 0, 0⟩ w).trans (by rw [show eqS ⟨0, 1, 5, 1, 0, 0, 0, 0⟩ ⟨0, 1, 5, 1, 0, 0, 0, 0⟩ = true by decide])
    have hq5 : ∀ w, (binOp .eql 26 (.agg #[.int .u16 0, .int .u16 12, .int .u16 5, .int .u16 5, .int .u16 23, .int .u16 59, .int .u16 59, .int .u16 999]) (.agg #[.int .u16 0, .int .u16 12, .int .u16 5, .int .u16 5, .int .u16 23, .int .u16 59, .int .u16 59, .int .u16 999])).run Tryd.prog w = .ok (.bool true) w := fun w => (eq_stt ⟨0, 12, 5, 5, 23, 59, 59, 999⟩ ⟨0, 12, 5, 5, 23, 59, 59, 999⟩ w).trans (by rw [show eqS ⟨0, 12, 5, 5, 23, 59, 59, 999⟩ ⟨0, 12, 5, 5, 23, 59, 59, 999⟩ = true by decide])
    have hq6 : ∀ w, (binOp .eql 26 (.agg #[.int .u16 0, .int .u16 1, .int .u16 4, .int .u16 1, .int .u16 0, .int .u16 0, .int .u16 0, .int .u16 0]) (.agg #[.int .u16 0, .int .u16 1, .int .u16 4, .int .u16 1, .int .u16 0, .int .u16 0, .int .u16 0, .int .u16 0])).run Tryd.prog w = .ok (.bool true) w := fun w => (eq_stt ⟨0, 1, 4, 1, 0, 0, 0, 0⟩ ⟨0, 1, 4, 1, 0, 0, 0, 0⟩ w).trans (by rw [show eqS ⟨0, 1, 4, 1, 0, 0, 0, 0⟩ ⟨0, 1, 4, 1, 0, 0, 0, 0⟩ = true by decide])
    simp only [List.append] at *
    go_wp2_with (first | refine wpList_store_new rfl 28 _ _ rfl rfl wc.heap.size #[.int .i32 (-60), .int .i32 (0), .int .i32 (-60), .int .u16 0, .int .u16 10, .int .u16 0, .int .u16 5, .int .u16 3, .int .u16 0, .int .u16 0, .int .u16 0, .int .u16 0, .int .u16 3, .int .u16 0, .int .u16 5, .int .u16 2, .int .u16 0, .int .u16 0, .int .u16 0] rfl rfl _ #[.int .i32 0, .int .i32 0, .int .i32 0, .int .u16 0, .int .u16 0, .int .u16 0, .int .u16 0, .int .u16 0, .int .u16 0, .int .u16 0, .int .u16 0, .int .u16 0, .int .u16 0, .int .u16 0, .int .u16 0, .int .u16 0, .int .u16 0, .int .u16 0, .int .u16 0] wc rfl rfl rfl (by kernel_rfl) (by kernel_rfl) ?_ | refine wpList_row_g rfl 28 _ rfl _ rfl _ _ _ _ r_11 Tryd.underlying28 rfl (by kernel_rfl) ?_ | refine wpList_row_g rfl 28 _ rfl _ rfl _ _ _ _ s_11 Tryd.underlying28 rfl (by kernel_rfl) ?_ | refine wpList_row_g rfl 28 _ rfl _ rfl _ _ _ _ p_11 Tryd.underlying28 rfl (by kernel_rfl) ?_ | refine wpList_row_g rfl 26 _ rfl _ rfl _ _ _ _ x_11 Tryd.underlying26 rfl (by kernel_rfl) ?_ | refine wpList_row_g rfl 26 _ rfl _ rfl _ _ _ _ y_11 Tryd.underlying26 rfl (by kernel_rfl) ?_ | refine wpList_row_g rfl 26 _ rfl _ rfl _ _ _ _ z_11 Tryd.underlying26 rfl (by kernel_rfl) ?_ | refine wpList_row_g rfl 28 _ rfl _ rfl _ _ _ _ want_11 Tryd.underlying28 rfl (by kernel_rfl) ?_)
    go_ret
    exact ⟨rfl, inv_11.2⟩
end Go.Proofs.YtginidedeefcdaaDoor.Ft
