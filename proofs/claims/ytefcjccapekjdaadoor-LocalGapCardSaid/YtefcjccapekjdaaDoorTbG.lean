/-
  LOCAL: LocalGap walked.
-/
import Derived.Test.YtefcjccapekjdaaDoorTbV
import Derived.Test.YtefcjccapekjdaaDoorTbN
namespace Go.Proofs.YtefcjccapekjdaaDoor.Tb
open Go.ChangeShapes Go.WideShapes Go.ChangeAt Go.RowKit
open Go.Proofs.YtefcjccapekjdaaDoor
open Go.Proofs.YtefcjccapekjdaaDoor.Wd
open Go.Proofs.YtefcjccapekjdaaDoor.Rec
open Go.Proofs.YtefcjccapekjdaaDoor.Yr
open Go.Proofs.YtefcjccapekjdaaDoor.Clk (yrV yrE)
open Go.Proofs.YtefcjccapekjdaaDoor.Civ (Tab Inv)
set_option linter.unusedVariables false
set_option maxRecDepth 20000 in
set_option maxHeartbeats 8000000 in
attribute [-go_sem] run_eql_struct in
theorem gap_any (F L : Int) (A : Option Addr) (n m : Nat) (l : List Rc) (c : Int) (w : World) (hT : Tab w) (hR : Recs w w.heap.size A n l) (hm : n ≤ maxLen) (hs : -9223372036854775808 ≤ c ∧ c ≤ 9223372036854775807) :
    Calls Tryd.prog 6 #[tbV F L A n m, .int .i64 c] w fun e w' => e = .returned (.bool true) ∧ Below w.heap.size w w' := by
  have i0 := Civ.Inv.start hT
  have hsm := fun w' => small_any F L A n m w' hm
  have hFr := fun w' (i : Inv w w') => from_any F L A n m _ l c w' i.1 (hR.below i.2) i.2.size hm hs
  by_cases hn : n ≤ 60
  · rw [if_pos hn] at hsm
    clear hn
    by_cases he : atE F L l c = 0
    · have hY := fun w' => Clk.year_any c w' hs.1 hs.2
      have h' := atE_0.1 he
      have hyb := yr_bd h'.2.1
      obtain ⟨_, y2, c1, c2⟩ := hyb
      have hG := local_gap he
      have hPk := fun w' (i : Inv w w') => pick_at (c := m) (y := yrV c) i.1 (hR.below i.2) i.2.size hm h'.1 h'.2.2 y2
      have hAt := fun t w' (i : Inv w w') => at_at (t := t) i.1 (pick_bd hR h'.1 (yrV c)) (pick_ok h'.1 (yrV c)) h'.2.2 y2
      have hbd := pick_bd hR h'.1 (yrV c)
      have hnr := Rc.near (pick_ok h'.1 (yrV c))
      rw [he] at hFr
      rw [h'.2.1] at hY
      clear he h'
      generalize pick F L l (yrV c) = r at *
      have hof : ∀ w', Calls Tryd.prog 16 #[r.V] w' fun e w'' => e = .returned (.tuple #[.int .i64 r.std, .int .i64 r.dst]) ∧ Below w'.heap.size w' w'' := fun w' => offs_any r.b r.c r.d r.p r.q w' hbd
      have hA0 := hAt (frC F L l c)
      have hA1 := hAt (c - r.std)
      have hA2 := hAt (c - r.dst)
      obtain ⟨⟨n1, n2⟩, n3, n4⟩ := hnr
      clear hAt hbd
      generalize yrV c = Y at *
      rcases hG with ⟨g1, ⟨g2, g3⟩ | ⟨g2, g3⟩⟩ | ⟨g1, g2, g3, ⟨g4, g5, g6⟩ | ⟨g4, g5, g6⟩⟩
      · rw [g3] at hA0; rw [g2] at hA0 hFr
        have hh : (frH F L l c != 3) = true := by simp [g1]
        clear g1 g2 g3
        generalize r.sum Y (c - r.std) = k1 at *
        generalize r.sum Y (c - r.dst) = k2 at *
        generalize r.off Y (c - r.std) = o1 at *
        generalize r.off Y (c - r.dst) = o2 at *
        generalize frH F L l c = h at *
        generalize r.std = sd at *
        generalize r.dst = dd at *
        go_enter Tryd.func6, Tryd.ntmps6
        go_wp2_with fail
        have t_1 := (Wd.Blk.new w 40 (tbA F L A n m))
        have inv_1 := (i0.alloc (.cells (tbA F L A n m) 40))
        refine (lives24_any _ inv_1.1).mono ?_; rintro e w_1 ⟨rfl, hb_1⟩
        have tc_1 := t_1.below hb_1 t_1.lt
        have invc_1 := inv_1.call hb_1
        clear t_1 inv_1 hb_1
        go_wp2_with (first | refine wpList_row_g rfl 40 _ rfl _ rfl _ _ _ _ tc_1 Tryd.underlying40 rfl (by kernel_rfl) ?_)
        have t_2 := tc_1
        have inv_2 := invc_1
        refine (hsm _).mono ?_; rintro e w_2 ⟨rfl, hb_2⟩
        have tc_2 := t_2.below hb_2 t_2.lt
        have invc_2 := inv_2.call hb_2
        clear t_2 inv_2 hb_2
        go_wp2_with (first | refine wpList_row_g rfl 40 _ rfl _ rfl _ _ _ _ tc_2 Tryd.underlying40 rfl (by kernel_rfl) ?_)
        have t_3 := tc_2
        have inv_3 := invc_2
        refine (hFr _ inv_3).mono ?_; rintro e w_3 ⟨rfl, hb_3⟩
        have tc_3 := t_3.below hb_3 t_3.lt
        have invc_3 := inv_3.call hb_3
        clear t_3 inv_3 hb_3
        go_wp2_with fail
        have t_4 := tc_3
        have inv_4 := invc_3
        refine (hY _).mono ?_; rintro e w_4 ⟨rfl, hb_4⟩
        have tc_4 := t_4.below hb_4 t_4.lt
        have invc_4 := inv_4.call hb_4
        clear t_4 inv_4 hb_4
        go_wp2_with (first | refine wpList_row_g rfl 40 _ rfl _ rfl _ _ _ _ tc_4 Tryd.underlying40 rfl (by kernel_rfl) ?_)
        have t_5 := tc_4
        have inv_5 := invc_4
        refine (hPk _ inv_5).mono ?_; rintro e w_5 ⟨rfl, hb_5⟩
        have tc_5 := t_5.below hb_5 t_5.lt
        have invc_5 := inv_5.call hb_5
        clear t_5 inv_5 hb_5
        have r_6 := (Wd.Blk.new w_5 26 r.A)
        have inv_6 := (invc_5.alloc (.cells r.A 26))
        go_wp2_with (first | refine wpList_store_new rfl 26 _ _ rfl rfl w_5.heap.size r.A rfl rfl _ z19 w_5 rfl rfl rfl (by kernel_rfl) (by kernel_rfl) ?_ | refine wpList_row_g rfl 26 _ rfl _ rfl _ _ _ _ r_6 Tryd.underlying26 rfl (by kernel_rfl) ?_)
        have r_7 := r_6
        have inv_7 := inv_6
        refine (hof _).mono ?_; rintro e w_7 ⟨rfl, hb_7⟩
        have rc_7 := r_7.below hb_7 r_7.lt
        have invc_7 := inv_7.call hb_7
        clear r_7 inv_7 hb_7
        go_wp2_with (first | refine wpList_row_g rfl 26 _ rfl _ rfl _ _ _ _ rc_7 Tryd.underlying26 rfl (by kernel_rfl) ?_)
        have r_8 := rc_7
        have inv_8 := invc_7
        refine (hA0 _ inv_8).mono ?_; rintro e w_8 ⟨rfl, hb_8⟩
        have rc_8 := r_8.below hb_8 r_8.lt
        have invc_8 := inv_8.call hb_8
        clear r_8 inv_8 hb_8
        have r_9 := (rc_8.alloc (.cells (stA0 sd k1) 43))
        have x_9 := (Wd.Blk.new w_8 43 (stA0 sd k1))
        have inv_9 := (invc_8.alloc (.cells (stA0 sd k1) 43))
        go_wp2_with (first | refine wpList_store_new rfl 43 _ _ rfl rfl w_8.heap.size (stA0 sd k1) rfl rfl _ (stA0 0 false) w_8 rfl rfl rfl (by kernel_rfl) (by kernel_rfl) ?_ | refine wpList_row_g rfl 26 _ rfl _ rfl _ _ _ _ r_9 Tryd.underlying26 rfl (by kernel_rfl) ?_)
        have r_10 := r_9
        have x_10 := x_9
        have inv_10 := inv_9
        refine (hA1 _ inv_10).mono ?_; rintro e w_10 ⟨rfl, hb_10⟩
        have rc_10 := r_10.below hb_10 r_10.lt
        have xc_10 := x_10.below hb_10 x_10.lt
        have invc_10 := inv_10.call hb_10
        clear r_10 x_10 inv_10 hb_10
        have r_11 := (rc_10.alloc (.cells (stA0 o1 k1) 43))
        have x_11 := (xc_10.alloc (.cells (stA0 o1 k1) 43))
        have p_11 := (Wd.Blk.new w_10 43 (stA0 o1 k1))
        have inv_11 := (invc_10.alloc (.cells (stA0 o1 k1) 43))
        go_wp2_with (first | refine wpList_store_new rfl 43 _ _ rfl rfl w_10.heap.size (stA0 o1 k1) rfl rfl _ (stA0 0 false) w_10 rfl rfl rfl (by kernel_rfl) (by kernel_rfl) ?_ | refine wpList_row_g rfl 26 _ rfl _ rfl _ _ _ _ r_11 Tryd.underlying26 rfl (by kernel_rfl) ?_)
        have r_12 := r_11
        have x_12 := x_11
        have p_12 := p_11
        have inv_12 := inv_11
        refine (hA2 _ inv_12).mono ?_; rintro e w_12 ⟨rfl, hb_12⟩
        have rc_12 := r_12.below hb_12 r_12.lt
        have xc_12 := x_12.below hb_12 x_12.lt
        have pc_12 := p_12.below hb_12 p_12.lt
        have invc_12 := inv_12.call hb_12
        clear r_12 x_12 p_12 inv_12 hb_12
        have x_13 := (xc_12.alloc (.cells (stA0 o2 k2) 43))
        have p_13 := (pc_12.alloc (.cells (stA0 o2 k2) 43))
        have q_13 := (Wd.Blk.new w_12 43 (stA0 o2 k2))
        have inv_13 := (invc_12.alloc (.cells (stA0 o2 k2) 43))
        have x0 := x_13.cell 0; have x1 := x_13.cell 1; simp at x0 x1
        have p0 := p_13.cell 0; have p1 := p_13.cell 1; simp at p0 p1
        have q0 := q_13.cell 0; have q1 := q_13.cell 1; simp at q0 q1
        go_upto_region 14 with (first | refine wpList_store_new rfl 43 _ _ rfl rfl w_12.heap.size (stA0 o2 k2) rfl rfl _ (stA0 0 false) w_12 rfl rfl rfl (by kernel_rfl) (by kernel_rfl) ?_)
        go_wp2_with fail
        all_goals (go_ret; exact ⟨rfl, inv_13.2⟩)
      · rw [g3] at hA0; rw [g2] at hA0 hFr
        have hh : (frH F L l c != 3) = true := by simp [g1]
        clear g1 g2 g3
        generalize r.sum Y (c - r.std) = k1 at *
        generalize r.sum Y (c - r.dst) = k2 at *
        generalize r.off Y (c - r.std) = o1 at *
        generalize r.off Y (c - r.dst) = o2 at *
        generalize frH F L l c = h at *
        generalize r.std = sd at *
        generalize r.dst = dd at *
        go_enter Tryd.func6, Tryd.ntmps6
        go_wp2_with fail
        have t_1 := (Wd.Blk.new w 40 (tbA F L A n m))
        have inv_1 := (i0.alloc (.cells (tbA F L A n m) 40))
        refine (lives24_any _ inv_1.1).mono ?_; rintro e w_1 ⟨rfl, hb_1⟩
        have tc_1 := t_1.below hb_1 t_1.lt
        have invc_1 := inv_1.call hb_1
        clear t_1 inv_1 hb_1
        go_wp2_with (first | refine wpList_row_g rfl 40 _ rfl _ rfl _ _ _ _ tc_1 Tryd.underlying40 rfl (by kernel_rfl) ?_)
        have t_2 := tc_1
        have inv_2 := invc_1
        refine (hsm _).mono ?_; rintro e w_2 ⟨rfl, hb_2⟩
        have tc_2 := t_2.below hb_2 t_2.lt
        have invc_2 := inv_2.call hb_2
        clear t_2 inv_2 hb_2
        go_wp2_with (first | refine wpList_row_g rfl 40 _ rfl _ rfl _ _ _ _ tc_2 Tryd.underlying40 rfl (by kernel_rfl) ?_)
        have t_3 := tc_2
        have inv_3 := invc_2
        refine (hFr _ inv_3).mono ?_; rintro e w_3 ⟨rfl, hb_3⟩
        have tc_3 := t_3.below hb_3 t_3.lt
        have invc_3 := inv_3.call hb_3
        clear t_3 inv_3 hb_3
        go_wp2_with fail
        have t_4 := tc_3
        have inv_4 := invc_3
        refine (hY _).mono ?_; rintro e w_4 ⟨rfl, hb_4⟩
        have tc_4 := t_4.below hb_4 t_4.lt
        have invc_4 := inv_4.call hb_4
        clear t_4 inv_4 hb_4
        go_wp2_with (first | refine wpList_row_g rfl 40 _ rfl _ rfl _ _ _ _ tc_4 Tryd.underlying40 rfl (by kernel_rfl) ?_)
        have t_5 := tc_4
        have inv_5 := invc_4
        refine (hPk _ inv_5).mono ?_; rintro e w_5 ⟨rfl, hb_5⟩
        have tc_5 := t_5.below hb_5 t_5.lt
        have invc_5 := inv_5.call hb_5
        clear t_5 inv_5 hb_5
        have r_6 := (Wd.Blk.new w_5 26 r.A)
        have inv_6 := (invc_5.alloc (.cells r.A 26))
        go_wp2_with (first | refine wpList_store_new rfl 26 _ _ rfl rfl w_5.heap.size r.A rfl rfl _ z19 w_5 rfl rfl rfl (by kernel_rfl) (by kernel_rfl) ?_ | refine wpList_row_g rfl 26 _ rfl _ rfl _ _ _ _ r_6 Tryd.underlying26 rfl (by kernel_rfl) ?_)
        have r_7 := r_6
        have inv_7 := inv_6
        refine (hof _).mono ?_; rintro e w_7 ⟨rfl, hb_7⟩
        have rc_7 := r_7.below hb_7 r_7.lt
        have invc_7 := inv_7.call hb_7
        clear r_7 inv_7 hb_7
        go_wp2_with (first | refine wpList_row_g rfl 26 _ rfl _ rfl _ _ _ _ rc_7 Tryd.underlying26 rfl (by kernel_rfl) ?_)
        have r_8 := rc_7
        have inv_8 := invc_7
        refine (hA0 _ inv_8).mono ?_; rintro e w_8 ⟨rfl, hb_8⟩
        have rc_8 := r_8.below hb_8 r_8.lt
        have invc_8 := inv_8.call hb_8
        clear r_8 inv_8 hb_8
        have r_9 := (rc_8.alloc (.cells (stA0 dd k2) 43))
        have x_9 := (Wd.Blk.new w_8 43 (stA0 dd k2))
        have inv_9 := (invc_8.alloc (.cells (stA0 dd k2) 43))
        go_wp2_with (first | refine wpList_store_new rfl 43 _ _ rfl rfl w_8.heap.size (stA0 dd k2) rfl rfl _ (stA0 0 false) w_8 rfl rfl rfl (by kernel_rfl) (by kernel_rfl) ?_ | refine wpList_row_g rfl 26 _ rfl _ rfl _ _ _ _ r_9 Tryd.underlying26 rfl (by kernel_rfl) ?_)
        have r_10 := r_9
        have x_10 := x_9
        have inv_10 := inv_9
        refine (hA1 _ inv_10).mono ?_; rintro e w_10 ⟨rfl, hb_10⟩
        have rc_10 := r_10.below hb_10 r_10.lt
        have xc_10 := x_10.below hb_10 x_10.lt
        have invc_10 := inv_10.call hb_10
        clear r_10 x_10 inv_10 hb_10
        have r_11 := (rc_10.alloc (.cells (stA0 o1 k1) 43))
        have x_11 := (xc_10.alloc (.cells (stA0 o1 k1) 43))
        have p_11 := (Wd.Blk.new w_10 43 (stA0 o1 k1))
        have inv_11 := (invc_10.alloc (.cells (stA0 o1 k1) 43))
        go_wp2_with (first | refine wpList_store_new rfl 43 _ _ rfl rfl w_10.heap.size (stA0 o1 k1) rfl rfl _ (stA0 0 false) w_10 rfl rfl rfl (by kernel_rfl) (by kernel_rfl) ?_ | refine wpList_row_g rfl 26 _ rfl _ rfl _ _ _ _ r_11 Tryd.underlying26 rfl (by kernel_rfl) ?_)
        have r_12 := r_11
        have x_12 := x_11
        have p_12 := p_11
        have inv_12 := inv_11
        refine (hA2 _ inv_12).mono ?_; rintro e w_12 ⟨rfl, hb_12⟩
        have rc_12 := r_12.below hb_12 r_12.lt
        have xc_12 := x_12.below hb_12 x_12.lt
        have pc_12 := p_12.below hb_12 p_12.lt
        have invc_12 := inv_12.call hb_12
        clear r_12 x_12 p_12 inv_12 hb_12
        have x_13 := (xc_12.alloc (.cells (stA0 o2 k2) 43))
        have p_13 := (pc_12.alloc (.cells (stA0 o2 k2) 43))
        have q_13 := (Wd.Blk.new w_12 43 (stA0 o2 k2))
        have inv_13 := (invc_12.alloc (.cells (stA0 o2 k2) 43))
        have x0 := x_13.cell 0; have x1 := x_13.cell 1; simp at x0 x1
        have p0 := p_13.cell 0; have p1 := p_13.cell 1; simp at p0 p1
        have q0 := q_13.cell 0; have q1 := q_13.cell 1; simp at q0 q1
        go_upto_region 14 with (first | refine wpList_store_new rfl 43 _ _ rfl rfl w_12.heap.size (stA0 o2 k2) rfl rfl _ (stA0 0 false) w_12 rfl rfl rfl (by kernel_rfl) (by kernel_rfl) ?_)
        go_wp2_with fail
        all_goals (go_ret; exact ⟨rfl, inv_13.2⟩)
      · rw [g6] at hA0; rw [g5] at hA0 hFr; rw [g1] at hFr; rw [g2] at hA0 hA1; rw [g3] at hA2
        clear g1 g2 g3 g5 g6
        generalize r.off Y (c - r.std) = o1 at *
        generalize r.off Y (c - r.dst) = o2 at *
        generalize r.std = sd at *
        generalize r.dst = dd at *
        have hne : (sd != dd) = true := by rw [bne_iff_ne]; omega
        have heq : (c - sd + dd == c + dd - sd) = true := by rw [beq_iff_eq]; omega
        go_enter Tryd.func6, Tryd.ntmps6
        go_wp2_with fail
        have t_1 := (Wd.Blk.new w 40 (tbA F L A n m))
        have inv_1 := (i0.alloc (.cells (tbA F L A n m) 40))
        refine (lives24_any _ inv_1.1).mono ?_; rintro e w_1 ⟨rfl, hb_1⟩
        have tc_1 := t_1.below hb_1 t_1.lt
        have invc_1 := inv_1.call hb_1
        clear t_1 inv_1 hb_1
        go_wp2_with (first | refine wpList_row_g rfl 40 _ rfl _ rfl _ _ _ _ tc_1 Tryd.underlying40 rfl (by kernel_rfl) ?_)
        have t_2 := tc_1
        have inv_2 := invc_1
        refine (hsm _).mono ?_; rintro e w_2 ⟨rfl, hb_2⟩
        have tc_2 := t_2.below hb_2 t_2.lt
        have invc_2 := inv_2.call hb_2
        clear t_2 inv_2 hb_2
        go_wp2_with (first | refine wpList_row_g rfl 40 _ rfl _ rfl _ _ _ _ tc_2 Tryd.underlying40 rfl (by kernel_rfl) ?_)
        have t_3 := tc_2
        have inv_3 := invc_2
        refine (hFr _ inv_3).mono ?_; rintro e w_3 ⟨rfl, hb_3⟩
        have tc_3 := t_3.below hb_3 t_3.lt
        have invc_3 := inv_3.call hb_3
        clear t_3 inv_3 hb_3
        go_wp2_with fail
        have t_4 := tc_3
        have inv_4 := invc_3
        refine (hY _).mono ?_; rintro e w_4 ⟨rfl, hb_4⟩
        have tc_4 := t_4.below hb_4 t_4.lt
        have invc_4 := inv_4.call hb_4
        clear t_4 inv_4 hb_4
        go_wp2_with (first | refine wpList_row_g rfl 40 _ rfl _ rfl _ _ _ _ tc_4 Tryd.underlying40 rfl (by kernel_rfl) ?_)
        have t_5 := tc_4
        have inv_5 := invc_4
        refine (hPk _ inv_5).mono ?_; rintro e w_5 ⟨rfl, hb_5⟩
        have tc_5 := t_5.below hb_5 t_5.lt
        have invc_5 := inv_5.call hb_5
        clear t_5 inv_5 hb_5
        have r_6 := (Wd.Blk.new w_5 26 r.A)
        have inv_6 := (invc_5.alloc (.cells r.A 26))
        go_wp2_with (first | refine wpList_store_new rfl 26 _ _ rfl rfl w_5.heap.size r.A rfl rfl _ z19 w_5 rfl rfl rfl (by kernel_rfl) (by kernel_rfl) ?_ | refine wpList_row_g rfl 26 _ rfl _ rfl _ _ _ _ r_6 Tryd.underlying26 rfl (by kernel_rfl) ?_)
        have r_7 := r_6
        have inv_7 := inv_6
        refine (hof _).mono ?_; rintro e w_7 ⟨rfl, hb_7⟩
        have rc_7 := r_7.below hb_7 r_7.lt
        have invc_7 := inv_7.call hb_7
        clear r_7 inv_7 hb_7
        go_wp2_with (first | refine wpList_row_g rfl 26 _ rfl _ rfl _ _ _ _ rc_7 Tryd.underlying26 rfl (by kernel_rfl) ?_)
        have r_8 := rc_7
        have inv_8 := invc_7
        refine (hA0 _ inv_8).mono ?_; rintro e w_8 ⟨rfl, hb_8⟩
        have rc_8 := r_8.below hb_8 r_8.lt
        have invc_8 := inv_8.call hb_8
        clear r_8 inv_8 hb_8
        have r_9 := (rc_8.alloc (.cells (stA0 dd true) 43))
        have x_9 := (Wd.Blk.new w_8 43 (stA0 dd true))
        have inv_9 := (invc_8.alloc (.cells (stA0 dd true) 43))
        go_wp2_with (first | refine wpList_store_new rfl 43 _ _ rfl rfl w_8.heap.size (stA0 dd true) rfl rfl _ (stA0 0 false) w_8 rfl rfl rfl (by kernel_rfl) (by kernel_rfl) ?_ | refine wpList_row_g rfl 26 _ rfl _ rfl _ _ _ _ r_9 Tryd.underlying26 rfl (by kernel_rfl) ?_)
        have r_10 := r_9
        have x_10 := x_9
        have inv_10 := inv_9
        refine (hA1 _ inv_10).mono ?_; rintro e w_10 ⟨rfl, hb_10⟩
        have rc_10 := r_10.below hb_10 r_10.lt
        have xc_10 := x_10.below hb_10 x_10.lt
        have invc_10 := inv_10.call hb_10
        clear r_10 x_10 inv_10 hb_10
        have r_11 := (rc_10.alloc (.cells (stA0 o1 true) 43))
        have x_11 := (xc_10.alloc (.cells (stA0 o1 true) 43))
        have p_11 := (Wd.Blk.new w_10 43 (stA0 o1 true))
        have inv_11 := (invc_10.alloc (.cells (stA0 o1 true) 43))
        go_wp2_with (first | refine wpList_store_new rfl 43 _ _ rfl rfl w_10.heap.size (stA0 o1 true) rfl rfl _ (stA0 0 false) w_10 rfl rfl rfl (by kernel_rfl) (by kernel_rfl) ?_ | refine wpList_row_g rfl 26 _ rfl _ rfl _ _ _ _ r_11 Tryd.underlying26 rfl (by kernel_rfl) ?_)
        have r_12 := r_11
        have x_12 := x_11
        have p_12 := p_11
        have inv_12 := inv_11
        refine (hA2 _ inv_12).mono ?_; rintro e w_12 ⟨rfl, hb_12⟩
        have rc_12 := r_12.below hb_12 r_12.lt
        have xc_12 := x_12.below hb_12 x_12.lt
        have pc_12 := p_12.below hb_12 p_12.lt
        have invc_12 := inv_12.call hb_12
        clear r_12 x_12 p_12 inv_12 hb_12
        have x_13 := (xc_12.alloc (.cells (stA0 o2 false) 43))
        have p_13 := (pc_12.alloc (.cells (stA0 o2 false) 43))
        have q_13 := (Wd.Blk.new w_12 43 (stA0 o2 false))
        have inv_13 := (invc_12.alloc (.cells (stA0 o2 false) 43))
        have x0 := x_13.cell 0; have x1 := x_13.cell 1; simp at x0 x1
        have p0 := p_13.cell 0; have p1 := p_13.cell 1; simp at p0 p1
        have q0 := q_13.cell 0; have q1 := q_13.cell 1; simp at q0 q1
        go_upto_region 14 with (first | refine wpList_store_new rfl 43 _ _ rfl rfl w_12.heap.size (stA0 o2 false) rfl rfl _ (stA0 0 false) w_12 rfl rfl rfl (by kernel_rfl) (by kernel_rfl) ?_)
        go_wp2_with fail
        all_goals (go_ret; exact ⟨rfl, inv_13.2⟩)
      · rw [g6] at hA0; rw [g5] at hA0 hFr; rw [g1] at hFr; rw [g2] at hA1; rw [g3] at hA0 hA2
        clear g1 g2 g3 g5 g6
        generalize r.off Y (c - r.std) = o1 at *
        generalize r.off Y (c - r.dst) = o2 at *
        generalize r.std = sd at *
        generalize r.dst = dd at *
        have hne : (sd != dd) = true := by rw [bne_iff_ne]; omega
        have heq : (c - dd + sd == c + sd - dd) = true := by rw [beq_iff_eq]; omega
        go_enter Tryd.func6, Tryd.ntmps6
        go_wp2_with fail
        have t_1 := (Wd.Blk.new w 40 (tbA F L A n m))
        have inv_1 := (i0.alloc (.cells (tbA F L A n m) 40))
        refine (lives24_any _ inv_1.1).mono ?_; rintro e w_1 ⟨rfl, hb_1⟩
        have tc_1 := t_1.below hb_1 t_1.lt
        have invc_1 := inv_1.call hb_1
        clear t_1 inv_1 hb_1
        go_wp2_with (first | refine wpList_row_g rfl 40 _ rfl _ rfl _ _ _ _ tc_1 Tryd.underlying40 rfl (by kernel_rfl) ?_)
        have t_2 := tc_1
        have inv_2 := invc_1
        refine (hsm _).mono ?_; rintro e w_2 ⟨rfl, hb_2⟩
        have tc_2 := t_2.below hb_2 t_2.lt
        have invc_2 := inv_2.call hb_2
        clear t_2 inv_2 hb_2
        go_wp2_with (first | refine wpList_row_g rfl 40 _ rfl _ rfl _ _ _ _ tc_2 Tryd.underlying40 rfl (by kernel_rfl) ?_)
        have t_3 := tc_2
        have inv_3 := invc_2
        refine (hFr _ inv_3).mono ?_; rintro e w_3 ⟨rfl, hb_3⟩
        have tc_3 := t_3.below hb_3 t_3.lt
        have invc_3 := inv_3.call hb_3
        clear t_3 inv_3 hb_3
        go_wp2_with fail
        have t_4 := tc_3
        have inv_4 := invc_3
        refine (hY _).mono ?_; rintro e w_4 ⟨rfl, hb_4⟩
        have tc_4 := t_4.below hb_4 t_4.lt
        have invc_4 := inv_4.call hb_4
        clear t_4 inv_4 hb_4
        go_wp2_with (first | refine wpList_row_g rfl 40 _ rfl _ rfl _ _ _ _ tc_4 Tryd.underlying40 rfl (by kernel_rfl) ?_)
        have t_5 := tc_4
        have inv_5 := invc_4
        refine (hPk _ inv_5).mono ?_; rintro e w_5 ⟨rfl, hb_5⟩
        have tc_5 := t_5.below hb_5 t_5.lt
        have invc_5 := inv_5.call hb_5
        clear t_5 inv_5 hb_5
        have r_6 := (Wd.Blk.new w_5 26 r.A)
        have inv_6 := (invc_5.alloc (.cells r.A 26))
        go_wp2_with (first | refine wpList_store_new rfl 26 _ _ rfl rfl w_5.heap.size r.A rfl rfl _ z19 w_5 rfl rfl rfl (by kernel_rfl) (by kernel_rfl) ?_ | refine wpList_row_g rfl 26 _ rfl _ rfl _ _ _ _ r_6 Tryd.underlying26 rfl (by kernel_rfl) ?_)
        have r_7 := r_6
        have inv_7 := inv_6
        refine (hof _).mono ?_; rintro e w_7 ⟨rfl, hb_7⟩
        have rc_7 := r_7.below hb_7 r_7.lt
        have invc_7 := inv_7.call hb_7
        clear r_7 inv_7 hb_7
        go_wp2_with (first | refine wpList_row_g rfl 26 _ rfl _ rfl _ _ _ _ rc_7 Tryd.underlying26 rfl (by kernel_rfl) ?_)
        have r_8 := rc_7
        have inv_8 := invc_7
        refine (hA0 _ inv_8).mono ?_; rintro e w_8 ⟨rfl, hb_8⟩
        have rc_8 := r_8.below hb_8 r_8.lt
        have invc_8 := inv_8.call hb_8
        clear r_8 inv_8 hb_8
        have r_9 := (rc_8.alloc (.cells (stA0 sd false) 43))
        have x_9 := (Wd.Blk.new w_8 43 (stA0 sd false))
        have inv_9 := (invc_8.alloc (.cells (stA0 sd false) 43))
        go_wp2_with (first | refine wpList_store_new rfl 43 _ _ rfl rfl w_8.heap.size (stA0 sd false) rfl rfl _ (stA0 0 false) w_8 rfl rfl rfl (by kernel_rfl) (by kernel_rfl) ?_ | refine wpList_row_g rfl 26 _ rfl _ rfl _ _ _ _ r_9 Tryd.underlying26 rfl (by kernel_rfl) ?_)
        have r_10 := r_9
        have x_10 := x_9
        have inv_10 := inv_9
        refine (hA1 _ inv_10).mono ?_; rintro e w_10 ⟨rfl, hb_10⟩
        have rc_10 := r_10.below hb_10 r_10.lt
        have xc_10 := x_10.below hb_10 x_10.lt
        have invc_10 := inv_10.call hb_10
        clear r_10 x_10 inv_10 hb_10
        have r_11 := (rc_10.alloc (.cells (stA0 o1 true) 43))
        have x_11 := (xc_10.alloc (.cells (stA0 o1 true) 43))
        have p_11 := (Wd.Blk.new w_10 43 (stA0 o1 true))
        have inv_11 := (invc_10.alloc (.cells (stA0 o1 true) 43))
        go_wp2_with (first | refine wpList_store_new rfl 43 _ _ rfl rfl w_10.heap.size (stA0 o1 true) rfl rfl _ (stA0 0 false) w_10 rfl rfl rfl (by kernel_rfl) (by kernel_rfl) ?_ | refine wpList_row_g rfl 26 _ rfl _ rfl _ _ _ _ r_11 Tryd.underlying26 rfl (by kernel_rfl) ?_)
        have r_12 := r_11
        have x_12 := x_11
        have p_12 := p_11
        have inv_12 := inv_11
        refine (hA2 _ inv_12).mono ?_; rintro e w_12 ⟨rfl, hb_12⟩
        have rc_12 := r_12.below hb_12 r_12.lt
        have xc_12 := x_12.below hb_12 x_12.lt
        have pc_12 := p_12.below hb_12 p_12.lt
        have invc_12 := inv_12.call hb_12
        clear r_12 x_12 p_12 inv_12 hb_12
        have x_13 := (xc_12.alloc (.cells (stA0 o2 false) 43))
        have p_13 := (pc_12.alloc (.cells (stA0 o2 false) 43))
        have q_13 := (Wd.Blk.new w_12 43 (stA0 o2 false))
        have inv_13 := (invc_12.alloc (.cells (stA0 o2 false) 43))
        have x0 := x_13.cell 0; have x1 := x_13.cell 1; simp at x0 x1
        have p0 := p_13.cell 0; have p1 := p_13.cell 1; simp at p0 p1
        have q0 := q_13.cell 0; have q1 := q_13.cell 1; simp at q0 q1
        go_upto_region 14 with (first | refine wpList_store_new rfl 43 _ _ rfl rfl w_12.heap.size (stA0 o2 false) rfl rfl _ (stA0 0 false) w_12 rfl rfl rfl (by kernel_rfl) (by kernel_rfl) ?_)
        go_wp2_with fail
        all_goals (go_ret; exact ⟨rfl, inv_13.2⟩)
    · obtain ⟨h1, h2, h3, h4⟩ := tr_no he
      have hH : frH F L l c = 0 := by unfold frH; rw [if_neg he]
      have hC : frC F L l c = 0 := by unfold frC; rw [h1, h2, h3, h4]; rfl
      have heb : (atE F L l c != 0) = true := by simp [he]
      rw [hH, hC] at hFr; clear h1 h2 h3 h4 hH hC he
      generalize atE F L l c = E at *
      go_enter Tryd.func6, Tryd.ntmps6
      go_wp2_with fail
      have t_1 := (Wd.Blk.new w 40 (tbA F L A n m))
      have inv_1 := (i0.alloc (.cells (tbA F L A n m) 40))
      refine (lives24_any _ inv_1.1).mono ?_; rintro e w_1 ⟨rfl, hb_1⟩
      have tc_1 := t_1.below hb_1 t_1.lt
      have invc_1 := inv_1.call hb_1
      clear t_1 inv_1 hb_1
      go_wp2_with (first | refine wpList_row_g rfl 40 _ rfl _ rfl _ _ _ _ tc_1 Tryd.underlying40 rfl (by kernel_rfl) ?_)
      have t_2 := tc_1
      have inv_2 := invc_1
      refine (hsm _).mono ?_; rintro e w_2 ⟨rfl, hb_2⟩
      have tc_2 := t_2.below hb_2 t_2.lt
      have invc_2 := inv_2.call hb_2
      clear t_2 inv_2 hb_2
      go_wp2_with (first | refine wpList_row_g rfl 40 _ rfl _ rfl _ _ _ _ tc_2 Tryd.underlying40 rfl (by kernel_rfl) ?_)
      have t_3 := tc_2
      have inv_3 := invc_2
      refine (hFr _ inv_3).mono ?_; rintro e w_3 ⟨rfl, hb_3⟩
      have tc_3 := t_3.below hb_3 t_3.lt
      have invc_3 := inv_3.call hb_3
      clear t_3 inv_3 hb_3
      go_wp2_with fail
      go_ret
      exact ⟨rfl, invc_3.2⟩
  · rw [if_neg hn] at hsm
    go_enter Tryd.func6, Tryd.ntmps6
    go_wp2_with fail
    have t_1 := (Wd.Blk.new w 40 (tbA F L A n m))
    have inv_1 := (i0.alloc (.cells (tbA F L A n m) 40))
    refine (lives24_any _ inv_1.1).mono ?_; rintro e w_1 ⟨rfl, hb_1⟩
    have tc_1 := t_1.below hb_1 t_1.lt
    have invc_1 := inv_1.call hb_1
    clear t_1 inv_1 hb_1
    go_wp2_with (first | refine wpList_row_g rfl 40 _ rfl _ rfl _ _ _ _ tc_1 Tryd.underlying40 rfl (by kernel_rfl) ?_)
    have t_2 := tc_1
    have inv_2 := invc_1
    refine (hsm _).mono ?_; rintro e w_2 ⟨rfl, hb_2⟩
    have tc_2 := t_2.below hb_2 t_2.lt
    have invc_2 := inv_2.call hb_2
    clear t_2 inv_2 hb_2
    go_wp2_with fail
    go_ret
    exact ⟨rfl, invc_2.2⟩
end Go.Proofs.YtefcjccapekjdaaDoor.Tb
