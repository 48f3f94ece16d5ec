/-
  LOCAL: LocalBack walked.
-/
import Derived.Test.YtefcjccapekjdaaDoorTbV
import Derived.Test.YtefcjccapekjdaaDoorTbN
namespace Go.Proofs.YtefcjccapekjdaaDoor.Tb
open Go.ChangeShapes Go.WideShapes Go.ChangeAt Go.RowKit
open Go.Proofs.YtefcjccapekjdaaDoor
open Go.Proofs.YtefcjccapekjdaaDoor.Wd
open Go.Proofs.YtefcjccapekjdaaDoor.Rec
open Go.Proofs.YtefcjccapekjdaaDoor.Yr
open Go.Proofs.YtefcjccapekjdaaDoor.Clk (yrV yrE)
open Go.Proofs.YtefcjccapekjdaaDoor.Civ (Tab Inv)
set_option linter.unusedVariables false
set_option maxRecDepth 20000 in
set_option maxHeartbeats 8000000 in
attribute [-go_sem] run_eql_struct in
theorem back_any (F L : Int) (A : Option Addr) (n m : Nat) (l : List Rc) (s : Int) (w : World) (hT : Tab w) (hR : Recs w w.heap.size A n l) (hm : n ≤ maxLen) (hs : -9223372036854775808 ≤ s ∧ s ≤ 9223372036854775807) :
    Calls Tryd.prog 5 #[tbV F L A n m, .int .i64 s] w fun e w' => e = .returned (.bool true) ∧ Below w.heap.size w w' := by
  have i0 := Civ.Inv.start hT
  have hsm := fun w' => small_any F L A n m w' hm
  have hTo := fun w' (i : Inv w w') => to_any F L A n m _ l s w' i.1 (hR.below i.2) i.2.size hm hs
  by_cases hn : n ≤ 60
  · rw [if_pos hn] at hsm
    clear hn
    by_cases he : atE F L l s = 0
    · have hY1 := fun w' => Clk.year_any s w' hs.1 hs.2
      have hc : toC F L l s = s + tOff F L l s := by unfold toC; rw [if_pos he]
      obtain ⟨⟨s1, s2⟩, o1, o2⟩ := to_bd he
      have h' := atE_0.1 he
      have hyb := yr_bd h'.2.1
      have hbk := fun c => local_back (c := c) he
      have hFr := fun c (h : -9223372036854775808 ≤ c ∧ c ≤ 9223372036854775807) w' (i : Inv w w') => from_any F L A n m _ l c w' i.1 (hR.below i.2) i.2.size hm h
      have hSe := fun c (h : -9223372036854775808 ≤ c ∧ c ≤ 9223372036854775807) w' (i : Inv w w') => second_any F L A n m _ l c w' i.1 (hR.below i.2) i.2.size hm h
      have hPk := fun w' (i : Inv w w') => pick_at (c := m) (y := yrV s) i.1 (hR.below i.2) i.2.size hm h'.1 h'.2.2 hyb.2.1
      have hAt := fun t w' (i : Inv w w') => at_at (t := t) i.1 (pick_bd hR h'.1 (yrV s)) (pick_ok h'.1 (yrV s)) h'.2.2 hyb.2.1
      have hOff : ∀ t, (pick F L l (yrV s)).off (yrV s) t = if (pick F L l (yrV s)).sum (yrV s) t = true then (pick F L l (yrV s)).dst else (pick F L l (yrV s)).std := fun t => rfl
      have hnr := Rc.near (pick_ok h'.1 (yrV s))
      rw [hc, he] at hTo
      rw [h'.2.1] at hY1
      clear hc he h'
      generalize tOff F L l s = o at *
      generalize tSum F L l s = k at *
      have hY2 := fun w' => Clk.year_any (s + o) w' (by omega) (by omega)
      have hB := hbk (s + o) rfl
      have hFr := hFr (s + o) (by omega)
      have hSe := hSe (s + o) (by omega)
      clear hbk
      generalize pick F L l (yrV s) = r at *
      generalize yrV s = Y at *
      rcases yr_01 (s + o) with hz | ⟨hz, hz2⟩
      · rw [hz] at hY2
        by_cases hy : yrV (s + o) = Y
        · obtain ⟨hE, hB⟩ := hB hz hy
          rw [hy] at hY2
          clear hy hz
          rw [hE] at hFr
          rcases hB with ⟨b1, b2, b3⟩ | ⟨b1, b2, b3, b4, b5, b6, b7, b8⟩
          · rw [b1] at hSe; rw [b2, b3] at hFr
            clear b1 b2 b3 hE hPk hAt hOff
            generalize seC F L l (s + o) = b at *
            go_enter Tryd.func5, Tryd.ntmps5
            go_wp2_with fail
            have t_1 := (Wd.Blk.new w 40 (tbA F L A n m))
            have inv_1 := (i0.alloc (.cells (tbA F L A n m) 40))
            refine (lives24_any _ inv_1.1).mono ?_; rintro e w_1 ⟨rfl, hb_1⟩
            have tc_1 := t_1.below hb_1 t_1.lt
            have invc_1 := inv_1.call hb_1
            clear t_1 inv_1 hb_1
            go_wp2_with (first | refine wpList_row_g rfl 40 _ rfl _ rfl _ _ _ _ tc_1 Tryd.underlying40 rfl (by kernel_rfl) ?_)
            have t_2 := tc_1
            have inv_2 := invc_1
            refine (hsm _).mono ?_; rintro e w_2 ⟨rfl, hb_2⟩
            have tc_2 := t_2.below hb_2 t_2.lt
            have invc_2 := inv_2.call hb_2
            clear t_2 inv_2 hb_2
            go_wp2_with (first | refine wpList_row_g rfl 40 _ rfl _ rfl _ _ _ _ tc_2 Tryd.underlying40 rfl (by kernel_rfl) ?_)
            have t_3 := tc_2
            have inv_3 := invc_2
            refine (hTo _ inv_3).mono ?_; rintro e w_3 ⟨rfl, hb_3⟩
            have tc_3 := t_3.below hb_3 t_3.lt
            have invc_3 := inv_3.call hb_3
            clear t_3 inv_3 hb_3
            have t_4 := (tc_3.alloc (.cells (stA0 o k) 43))
            have x_4 := (Wd.Blk.new w_3 43 (stA0 o k))
            have inv_4 := (invc_3.alloc (.cells (stA0 o k) 43))
            go_wp2_with (first | refine wpList_store_new rfl 43 _ _ rfl rfl w_3.heap.size (stA0 o k) rfl rfl _ (stA0 0 false) w_3 rfl rfl rfl (by kernel_rfl) (by kernel_rfl) ?_)
            have t_5 := t_4
            have x_5 := x_4
            have inv_5 := inv_4
            refine (hY1 _).mono ?_; rintro e w_5 ⟨rfl, hb_5⟩
            have tc_5 := t_5.below hb_5 t_5.lt
            have xc_5 := x_5.below hb_5 x_5.lt
            have invc_5 := inv_5.call hb_5
            clear t_5 x_5 inv_5 hb_5
            go_wp2_with fail
            have t_6 := tc_5
            have x_6 := xc_5
            have inv_6 := invc_5
            refine (hY2 _).mono ?_; rintro e w_6 ⟨rfl, hb_6⟩
            have tc_6 := t_6.below hb_6 t_6.lt
            have xc_6 := x_6.below hb_6 x_6.lt
            have invc_6 := inv_6.call hb_6
            clear t_6 x_6 inv_6 hb_6
            have x0 := xc_6.cell 0; simp at x0
            go_wp2_with (first | refine wpList_row_g rfl 40 _ rfl _ rfl _ _ _ _ tc_6 Tryd.underlying40 rfl (by kernel_rfl) ?_)
            clear x0
            have t_7 := tc_6
            have inv_7 := invc_6
            refine (hFr _ inv_7).mono ?_; rintro e w_7 ⟨rfl, hb_7⟩
            have tc_7 := t_7.below hb_7 t_7.lt
            have invc_7 := inv_7.call hb_7
            clear t_7 inv_7 hb_7
            go_wp2_with (first | refine wpList_row_g rfl 40 _ rfl _ rfl _ _ _ _ tc_7 Tryd.underlying40 rfl (by kernel_rfl) ?_)
            have t_8 := tc_7
            have inv_8 := invc_7
            refine (hSe _ inv_8).mono ?_; rintro e w_8 ⟨rfl, hb_8⟩
            have tc_8 := t_8.below hb_8 t_8.lt
            have invc_8 := inv_8.call hb_8
            clear t_8 inv_8 hb_8
            go_wp2_with fail
            go_ret
            exact ⟨rfl, invc_8.2⟩
          · rw [b1, b4] at hSe; rw [b2, b3] at hFr
            have hA1 := hAt (s + o - r.std)
            have hA2 := hAt (s + o - r.dst)
            rw [hOff, b6, if_neg (by decide)] at hA1
            rw [hOff, b7, if_pos rfl] at hA2
            clear b1 b2 b3 b4 b6 b7 hE hAt hOff
            generalize r.std = sd at *
            generalize r.dst = dd at *
            obtain ⟨⟨n1, n2⟩, n3, n4⟩ := hnr
            rcases b8 with b8 | b8
            · obtain rfl : o = sd := by omega
              have hne : (s != s + o - dd) = true := by rw [bne_iff_ne]; omega
              have he : s + o - o = s := by omega
              rw [he] at hFr hA1
              clear b8 he
              go_enter Tryd.func5, Tryd.ntmps5
              go_wp2_with fail
              have t_1 := (Wd.Blk.new w 40 (tbA F L A n m))
              have inv_1 := (i0.alloc (.cells (tbA F L A n m) 40))
              refine (lives24_any _ inv_1.1).mono ?_; rintro e w_1 ⟨rfl, hb_1⟩
              have tc_1 := t_1.below hb_1 t_1.lt
              have invc_1 := inv_1.call hb_1
              clear t_1 inv_1 hb_1
              go_wp2_with (first | refine wpList_row_g rfl 40 _ rfl _ rfl _ _ _ _ tc_1 Tryd.underlying40 rfl (by kernel_rfl) ?_)
              have t_2 := tc_1
              have inv_2 := invc_1
              refine (hsm _).mono ?_; rintro e w_2 ⟨rfl, hb_2⟩
              have tc_2 := t_2.below hb_2 t_2.lt
              have invc_2 := inv_2.call hb_2
              clear t_2 inv_2 hb_2
              go_wp2_with (first | refine wpList_row_g rfl 40 _ rfl _ rfl _ _ _ _ tc_2 Tryd.underlying40 rfl (by kernel_rfl) ?_)
              have t_3 := tc_2
              have inv_3 := invc_2
              refine (hTo _ inv_3).mono ?_; rintro e w_3 ⟨rfl, hb_3⟩
              have tc_3 := t_3.below hb_3 t_3.lt
              have invc_3 := inv_3.call hb_3
              clear t_3 inv_3 hb_3
              have t_4 := (tc_3.alloc (.cells (stA0 o k) 43))
              have x_4 := (Wd.Blk.new w_3 43 (stA0 o k))
              have inv_4 := (invc_3.alloc (.cells (stA0 o k) 43))
              go_wp2_with (first | refine wpList_store_new rfl 43 _ _ rfl rfl w_3.heap.size (stA0 o k) rfl rfl _ (stA0 0 false) w_3 rfl rfl rfl (by kernel_rfl) (by kernel_rfl) ?_)
              have t_5 := t_4
              have x_5 := x_4
              have inv_5 := inv_4
              refine (hY1 _).mono ?_; rintro e w_5 ⟨rfl, hb_5⟩
              have tc_5 := t_5.below hb_5 t_5.lt
              have xc_5 := x_5.below hb_5 x_5.lt
              have invc_5 := inv_5.call hb_5
              clear t_5 x_5 inv_5 hb_5
              go_wp2_with fail
              have t_6 := tc_5
              have x_6 := xc_5
              have inv_6 := invc_5
              refine (hY2 _).mono ?_; rintro e w_6 ⟨rfl, hb_6⟩
              have tc_6 := t_6.below hb_6 t_6.lt
              have xc_6 := x_6.below hb_6 x_6.lt
              have invc_6 := inv_6.call hb_6
              clear t_6 x_6 inv_6 hb_6
              have x0 := xc_6.cell 0; simp at x0
              go_wp2_with (first | refine wpList_row_g rfl 40 _ rfl _ rfl _ _ _ _ tc_6 Tryd.underlying40 rfl (by kernel_rfl) ?_)
              clear x0
              have t_7 := tc_6
              have inv_7 := invc_6
              refine (hFr _ inv_7).mono ?_; rintro e w_7 ⟨rfl, hb_7⟩
              have tc_7 := t_7.below hb_7 t_7.lt
              have invc_7 := inv_7.call hb_7
              clear t_7 inv_7 hb_7
              go_wp2_with (first | refine wpList_row_g rfl 40 _ rfl _ rfl _ _ _ _ tc_7 Tryd.underlying40 rfl (by kernel_rfl) ?_)
              have t_8 := tc_7
              have inv_8 := invc_7
              refine (hSe _ inv_8).mono ?_; rintro e w_8 ⟨rfl, hb_8⟩
              have tc_8 := t_8.below hb_8 t_8.lt
              have invc_8 := inv_8.call hb_8
              clear t_8 inv_8 hb_8
              go_wp2_with (first | refine wpList_row_g rfl 40 _ rfl _ rfl _ _ _ _ tc_8 Tryd.underlying40 rfl (by kernel_rfl) ?_)
              have t_9 := tc_8
              have inv_9 := invc_8
              refine (hPk _ inv_9).mono ?_; rintro e w_9 ⟨rfl, hb_9⟩
              have tc_9 := t_9.below hb_9 t_9.lt
              have invc_9 := inv_9.call hb_9
              clear t_9 inv_9 hb_9
              have r_10 := (Wd.Blk.new w_9 26 r.A)
              have inv_10 := (invc_9.alloc (.cells r.A 26))
              go_wp2_with (first | refine wpList_store_new rfl 26 _ _ rfl rfl w_9.heap.size r.A rfl rfl _ z19 w_9 rfl rfl rfl (by kernel_rfl) (by kernel_rfl) ?_ | refine wpList_row_g rfl 26 _ rfl _ rfl _ _ _ _ r_10 Tryd.underlying26 rfl (by kernel_rfl) ?_)
              have r_11 := r_10
              have inv_11 := inv_10
              refine (hA1 _ inv_11).mono ?_; rintro e w_11 ⟨rfl, hb_11⟩
              have rc_11 := r_11.below hb_11 r_11.lt
              have invc_11 := inv_11.call hb_11
              clear r_11 inv_11 hb_11
              have r_12 := (rc_11.alloc (.cells (stA0 o false) 43))
              have p_12 := (Wd.Blk.new w_11 43 (stA0 o false))
              have inv_12 := (invc_11.alloc (.cells (stA0 o false) 43))
              go_wp2_with (first | refine wpList_store_new rfl 43 _ _ rfl rfl w_11.heap.size (stA0 o false) rfl rfl _ (stA0 0 false) w_11 rfl rfl rfl (by kernel_rfl) (by kernel_rfl) ?_ | refine wpList_row_g rfl 26 _ rfl _ rfl _ _ _ _ r_12 Tryd.underlying26 rfl (by kernel_rfl) ?_)
              have r_13 := r_12
              have p_13 := p_12
              have inv_13 := inv_12
              refine (hA2 _ inv_13).mono ?_; rintro e w_13 ⟨rfl, hb_13⟩
              have rc_13 := r_13.below hb_13 r_13.lt
              have pc_13 := p_13.below hb_13 p_13.lt
              have invc_13 := inv_13.call hb_13
              clear r_13 p_13 inv_13 hb_13
              have p_14 := (pc_13.alloc (.cells (stA0 dd true) 43))
              have q_14 := (Wd.Blk.new w_13 43 (stA0 dd true))
              have inv_14 := (invc_13.alloc (.cells (stA0 dd true) 43))
              have p0 := p_14.cell 0; have p1 := p_14.cell 1; simp at p0 p1
              have q0 := q_14.cell 0; have q1 := q_14.cell 1; simp at q0 q1
              go_upto_region 23 with (first | refine wpList_store_new rfl 43 _ _ rfl rfl w_13.heap.size (stA0 dd true) rfl rfl _ (stA0 0 false) w_13 rfl rfl rfl (by kernel_rfl) (by kernel_rfl) ?_)
              go_wp2_with fail
              go_ret
              exact ⟨rfl, inv_14.2⟩
            · obtain rfl : o = dd := by omega
              have hne : (s + o - sd != s) = true := by rw [bne_iff_ne]; omega
              have he : s + o - o = s := by omega
              rw [he] at hSe hA2
              clear b8 he
              go_enter Tryd.func5, Tryd.ntmps5
              go_wp2_with fail
              have t_1 := (Wd.Blk.new w 40 (tbA F L A n m))
              have inv_1 := (i0.alloc (.cells (tbA F L A n m) 40))
              refine (lives24_any _ inv_1.1).mono ?_; rintro e w_1 ⟨rfl, hb_1⟩
              have tc_1 := t_1.below hb_1 t_1.lt
              have invc_1 := inv_1.call hb_1
              clear t_1 inv_1 hb_1
              go_wp2_with (first | refine wpList_row_g rfl 40 _ rfl _ rfl _ _ _ _ tc_1 Tryd.underlying40 rfl (by kernel_rfl) ?_)
              have t_2 := tc_1
              have inv_2 := invc_1
              refine (hsm _).mono ?_; rintro e w_2 ⟨rfl, hb_2⟩
              have tc_2 := t_2.below hb_2 t_2.lt
              have invc_2 := inv_2.call hb_2
              clear t_2 inv_2 hb_2
              go_wp2_with (first | refine wpList_row_g rfl 40 _ rfl _ rfl _ _ _ _ tc_2 Tryd.underlying40 rfl (by kernel_rfl) ?_)
              have t_3 := tc_2
              have inv_3 := invc_2
              refine (hTo _ inv_3).mono ?_; rintro e w_3 ⟨rfl, hb_3⟩
              have tc_3 := t_3.below hb_3 t_3.lt
              have invc_3 := inv_3.call hb_3
              clear t_3 inv_3 hb_3
              have t_4 := (tc_3.alloc (.cells (stA0 o k) 43))
              have x_4 := (Wd.Blk.new w_3 43 (stA0 o k))
              have inv_4 := (invc_3.alloc (.cells (stA0 o k) 43))
              go_wp2_with (first | refine wpList_store_new rfl 43 _ _ rfl rfl w_3.heap.size (stA0 o k) rfl rfl _ (stA0 0 false) w_3 rfl rfl rfl (by kernel_rfl) (by kernel_rfl) ?_)
              have t_5 := t_4
              have x_5 := x_4
              have inv_5 := inv_4
              refine (hY1 _).mono ?_; rintro e w_5 ⟨rfl, hb_5⟩
              have tc_5 := t_5.below hb_5 t_5.lt
              have xc_5 := x_5.below hb_5 x_5.lt
              have invc_5 := inv_5.call hb_5
              clear t_5 x_5 inv_5 hb_5
              go_wp2_with fail
              have t_6 := tc_5
              have x_6 := xc_5
              have inv_6 := invc_5
              refine (hY2 _).mono ?_; rintro e w_6 ⟨rfl, hb_6⟩
              have tc_6 := t_6.below hb_6 t_6.lt
              have xc_6 := x_6.below hb_6 x_6.lt
              have invc_6 := inv_6.call hb_6
              clear t_6 x_6 inv_6 hb_6
              have x0 := xc_6.cell 0; simp at x0
              go_wp2_with (first | refine wpList_row_g rfl 40 _ rfl _ rfl _ _ _ _ tc_6 Tryd.underlying40 rfl (by kernel_rfl) ?_)
              clear x0
              have t_7 := tc_6
              have inv_7 := invc_6
              refine (hFr _ inv_7).mono ?_; rintro e w_7 ⟨rfl, hb_7⟩
              have tc_7 := t_7.below hb_7 t_7.lt
              have invc_7 := inv_7.call hb_7
              clear t_7 inv_7 hb_7
              go_wp2_with (first | refine wpList_row_g rfl 40 _ rfl _ rfl _ _ _ _ tc_7 Tryd.underlying40 rfl (by kernel_rfl) ?_)
              have t_8 := tc_7
              have inv_8 := invc_7
              refine (hSe _ inv_8).mono ?_; rintro e w_8 ⟨rfl, hb_8⟩
              have tc_8 := t_8.below hb_8 t_8.lt
              have invc_8 := inv_8.call hb_8
              clear t_8 inv_8 hb_8
              go_wp2_with (first | refine wpList_row_g rfl 40 _ rfl _ rfl _ _ _ _ tc_8 Tryd.underlying40 rfl (by kernel_rfl) ?_)
              have t_9 := tc_8
              have inv_9 := invc_8
              refine (hPk _ inv_9).mono ?_; rintro e w_9 ⟨rfl, hb_9⟩
              have tc_9 := t_9.below hb_9 t_9.lt
              have invc_9 := inv_9.call hb_9
              clear t_9 inv_9 hb_9
              have r_10 := (Wd.Blk.new w_9 26 r.A)
              have inv_10 := (invc_9.alloc (.cells r.A 26))
              go_wp2_with (first | refine wpList_store_new rfl 26 _ _ rfl rfl w_9.heap.size r.A rfl rfl _ z19 w_9 rfl rfl rfl (by kernel_rfl) (by kernel_rfl) ?_ | refine wpList_row_g rfl 26 _ rfl _ rfl _ _ _ _ r_10 Tryd.underlying26 rfl (by kernel_rfl) ?_)
              have r_11 := r_10
              have inv_11 := inv_10
              refine (hA1 _ inv_11).mono ?_; rintro e w_11 ⟨rfl, hb_11⟩
              have rc_11 := r_11.below hb_11 r_11.lt
              have invc_11 := inv_11.call hb_11
              clear r_11 inv_11 hb_11
              have r_12 := (rc_11.alloc (.cells (stA0 sd false) 43))
              have p_12 := (Wd.Blk.new w_11 43 (stA0 sd false))
              have inv_12 := (invc_11.alloc (.cells (stA0 sd false) 43))
              go_wp2_with (first | refine wpList_store_new rfl 43 _ _ rfl rfl w_11.heap.size (stA0 sd false) rfl rfl _ (stA0 0 false) w_11 rfl rfl rfl (by kernel_rfl) (by kernel_rfl) ?_ | refine wpList_row_g rfl 26 _ rfl _ rfl _ _ _ _ r_12 Tryd.underlying26 rfl (by kernel_rfl) ?_)
              have r_13 := r_12
              have p_13 := p_12
              have inv_13 := inv_12
              refine (hA2 _ inv_13).mono ?_; rintro e w_13 ⟨rfl, hb_13⟩
              have rc_13 := r_13.below hb_13 r_13.lt
              have pc_13 := p_13.below hb_13 p_13.lt
              have invc_13 := inv_13.call hb_13
              clear r_13 p_13 inv_13 hb_13
              have p_14 := (pc_13.alloc (.cells (stA0 o true) 43))
              have q_14 := (Wd.Blk.new w_13 43 (stA0 o true))
              have inv_14 := (invc_13.alloc (.cells (stA0 o true) 43))
              have p0 := p_14.cell 0; have p1 := p_14.cell 1; simp at p0 p1
              have q0 := q_14.cell 0; have q1 := q_14.cell 1; simp at q0 q1
              go_upto_region 23 with (first | refine wpList_store_new rfl 43 _ _ rfl rfl w_13.heap.size (stA0 o true) rfl rfl _ (stA0 0 false) w_13 rfl rfl rfl (by kernel_rfl) (by kernel_rfl) ?_)
              go_wp2_with fail
              go_ret
              exact ⟨rfl, inv_14.2⟩
        · have hyn : (Y != yrV (s + o)) = true := by simp [Ne.symm hy]
          clear hB hFr hSe hPk hAt hOff hz hy
          generalize yrV (s + o) = Z at *
          go_enter Tryd.func5, Tryd.ntmps5
          go_wp2_with fail
          have t_1 := (Wd.Blk.new w 40 (tbA F L A n m))
          have inv_1 := (i0.alloc (.cells (tbA F L A n m) 40))
          refine (lives24_any _ inv_1.1).mono ?_; rintro e w_1 ⟨rfl, hb_1⟩
          have tc_1 := t_1.below hb_1 t_1.lt
          have invc_1 := inv_1.call hb_1
          clear t_1 inv_1 hb_1
          go_wp2_with (first | refine wpList_row_g rfl 40 _ rfl _ rfl _ _ _ _ tc_1 Tryd.underlying40 rfl (by kernel_rfl) ?_)
          have t_2 := tc_1
          have inv_2 := invc_1
          refine (hsm _).mono ?_; rintro e w_2 ⟨rfl, hb_2⟩
          have tc_2 := t_2.below hb_2 t_2.lt
          have invc_2 := inv_2.call hb_2
          clear t_2 inv_2 hb_2
          go_wp2_with (first | refine wpList_row_g rfl 40 _ rfl _ rfl _ _ _ _ tc_2 Tryd.underlying40 rfl (by kernel_rfl) ?_)
          have t_3 := tc_2
          have inv_3 := invc_2
          refine (hTo _ inv_3).mono ?_; rintro e w_3 ⟨rfl, hb_3⟩
          have tc_3 := t_3.below hb_3 t_3.lt
          have invc_3 := inv_3.call hb_3
          clear t_3 inv_3 hb_3
          have t_4 := (tc_3.alloc (.cells (stA0 o k) 43))
          have x_4 := (Wd.Blk.new w_3 43 (stA0 o k))
          have inv_4 := (invc_3.alloc (.cells (stA0 o k) 43))
          go_wp2_with (first | refine wpList_store_new rfl 43 _ _ rfl rfl w_3.heap.size (stA0 o k) rfl rfl _ (stA0 0 false) w_3 rfl rfl rfl (by kernel_rfl) (by kernel_rfl) ?_)
          have t_5 := t_4
          have x_5 := x_4
          have inv_5 := inv_4
          refine (hY1 _).mono ?_; rintro e w_5 ⟨rfl, hb_5⟩
          have tc_5 := t_5.below hb_5 t_5.lt
          have xc_5 := x_5.below hb_5 x_5.lt
          have invc_5 := inv_5.call hb_5
          clear t_5 x_5 inv_5 hb_5
          go_wp2_with fail
          have t_6 := tc_5
          have x_6 := xc_5
          have inv_6 := invc_5
          refine (hY2 _).mono ?_; rintro e w_6 ⟨rfl, hb_6⟩
          have tc_6 := t_6.below hb_6 t_6.lt
          have xc_6 := x_6.below hb_6 x_6.lt
          have invc_6 := inv_6.call hb_6
          clear t_6 x_6 inv_6 hb_6
          have x0 := xc_6.cell 0; simp at x0
          go_wp2_with fail
          go_ret
          exact ⟨rfl, invc_6.2⟩
      · rw [hz, hz2] at hY2
        clear hB hFr hSe hPk hAt hOff hz hz2
        go_enter Tryd.func5, Tryd.ntmps5
        go_wp2_with fail
        have t_1 := (Wd.Blk.new w 40 (tbA F L A n m))
        have inv_1 := (i0.alloc (.cells (tbA F L A n m) 40))
        refine (lives24_any _ inv_1.1).mono ?_; rintro e w_1 ⟨rfl, hb_1⟩
        have tc_1 := t_1.below hb_1 t_1.lt
        have invc_1 := inv_1.call hb_1
        clear t_1 inv_1 hb_1
        go_wp2_with (first | refine wpList_row_g rfl 40 _ rfl _ rfl _ _ _ _ tc_1 Tryd.underlying40 rfl (by kernel_rfl) ?_)
        have t_2 := tc_1
        have inv_2 := invc_1
        refine (hsm _).mono ?_; rintro e w_2 ⟨rfl, hb_2⟩
        have tc_2 := t_2.below hb_2 t_2.lt
        have invc_2 := inv_2.call hb_2
        clear t_2 inv_2 hb_2
        go_wp2_with (first | refine wpList_row_g rfl 40 _ rfl _ rfl _ _ _ _ tc_2 Tryd.underlying40 rfl (by kernel_rfl) ?_)
        have t_3 := tc_2
        have inv_3 := invc_2
        refine (hTo _ inv_3).mono ?_; rintro e w_3 ⟨rfl, hb_3⟩
        have tc_3 := t_3.below hb_3 t_3.lt
        have invc_3 := inv_3.call hb_3
        clear t_3 inv_3 hb_3
        have t_4 := (tc_3.alloc (.cells (stA0 o k) 43))
        have x_4 := (Wd.Blk.new w_3 43 (stA0 o k))
        have inv_4 := (invc_3.alloc (.cells (stA0 o k) 43))
        go_wp2_with (first | refine wpList_store_new rfl 43 _ _ rfl rfl w_3.heap.size (stA0 o k) rfl rfl _ (stA0 0 false) w_3 rfl rfl rfl (by kernel_rfl) (by kernel_rfl) ?_)
        have t_5 := t_4
        have x_5 := x_4
        have inv_5 := inv_4
        refine (hY1 _).mono ?_; rintro e w_5 ⟨rfl, hb_5⟩
        have tc_5 := t_5.below hb_5 t_5.lt
        have xc_5 := x_5.below hb_5 x_5.lt
        have invc_5 := inv_5.call hb_5
        clear t_5 x_5 inv_5 hb_5
        go_wp2_with fail
        have t_6 := tc_5
        have x_6 := xc_5
        have inv_6 := invc_5
        refine (hY2 _).mono ?_; rintro e w_6 ⟨rfl, hb_6⟩
        have tc_6 := t_6.below hb_6 t_6.lt
        have xc_6 := x_6.below hb_6 x_6.lt
        have invc_6 := inv_6.call hb_6
        clear t_6 x_6 inv_6 hb_6
        have x0 := xc_6.cell 0; simp at x0
        go_wp2_with fail
        go_ret
        exact ⟨rfl, invc_6.2⟩
    · have e1 : toC F L l s = 0 := by unfold toC; rw [if_neg he]
      have e2 : tOff F L l s = 0 := by unfold tOff; rw [if_neg he]
      have e3 : tSum F L l s = false := by unfold tSum; rw [if_neg he]
      have heb : (atE F L l s != 0) = true := by simp [he]
      rw [e1, e2, e3] at hTo; clear e1 e2 e3 he
      generalize atE F L l s = E at *
      have hq := eq_sta 0 0 false false
      rw [show eqT 0 false 0 false = true by decide] at hq
      go_enter Tryd.func5, Tryd.ntmps5
      go_wp2_with fail
      have t_1 := (Wd.Blk.new w 40 (tbA F L A n m))
      have inv_1 := (i0.alloc (.cells (tbA F L A n m) 40))
      refine (lives24_any _ inv_1.1).mono ?_; rintro e w_1 ⟨rfl, hb_1⟩
      have tc_1 := t_1.below hb_1 t_1.lt
      have invc_1 := inv_1.call hb_1
      clear t_1 inv_1 hb_1
      go_wp2_with (first | refine wpList_row_g rfl 40 _ rfl _ rfl _ _ _ _ tc_1 Tryd.underlying40 rfl (by kernel_rfl) ?_)
      have t_2 := tc_1
      have inv_2 := invc_1
      refine (hsm _).mono ?_; rintro e w_2 ⟨rfl, hb_2⟩
      have tc_2 := t_2.below hb_2 t_2.lt
      have invc_2 := inv_2.call hb_2
      clear t_2 inv_2 hb_2
      go_wp2_with (first | refine wpList_row_g rfl 40 _ rfl _ rfl _ _ _ _ tc_2 Tryd.underlying40 rfl (by kernel_rfl) ?_)
      have t_3 := tc_2
      have inv_3 := invc_2
      refine (hTo _ inv_3).mono ?_; rintro e w_3 ⟨rfl, hb_3⟩
      have tc_3 := t_3.below hb_3 t_3.lt
      have invc_3 := inv_3.call hb_3
      clear t_3 inv_3 hb_3
      have t_4 := (tc_3.alloc (.cells (stA0 0 false) 43))
      have x_4 := (Wd.Blk.new w_3 43 (stA0 0 false))
      have inv_4 := (invc_3.alloc (.cells (stA0 0 false) 43))
      go_wp2_with (first | refine wpList_store_new rfl 43 _ _ rfl rfl w_3.heap.size (stA0 0 false) rfl rfl _ (stA0 0 false) w_3 rfl rfl rfl (by kernel_rfl) (by kernel_rfl) ?_ | refine wpList_row_g rfl 43 _ rfl _ rfl _ _ _ _ x_4 Tryd.underlying43 rfl (by kernel_rfl) ?_)
      go_ret
      exact ⟨rfl, inv_4.2⟩
  · rw [if_neg hn] at hsm
    go_enter Tryd.func5, Tryd.ntmps5
    go_wp2_with fail
    have t_1 := (Wd.Blk.new w 40 (tbA F L A n m))
    have inv_1 := (i0.alloc (.cells (tbA F L A n m) 40))
    refine (lives24_any _ inv_1.1).mono ?_; rintro e w_1 ⟨rfl, hb_1⟩
    have tc_1 := t_1.below hb_1 t_1.lt
    have invc_1 := inv_1.call hb_1
    clear t_1 inv_1 hb_1
    go_wp2_with (first | refine wpList_row_g rfl 40 _ rfl _ rfl _ _ _ _ tc_1 Tryd.underlying40 rfl (by kernel_rfl) ?_)
    have t_2 := tc_1
    have inv_2 := invc_1
    refine (hsm _).mono ?_; rintro e w_2 ⟨rfl, hb_2⟩
    have tc_2 := t_2.below hb_2 t_2.lt
    have invc_2 := inv_2.call hb_2
    clear t_2 inv_2 hb_2
    go_wp2_with fail
    go_ret
    exact ⟨rfl, invc_2.2⟩
end Go.Proofs.YtefcjccapekjdaaDoor.Tb
