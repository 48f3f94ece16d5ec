/-
  LOCAL: TopHands walked.
-/
import Derived.Test.YtefcjccapekjdaaDoorTbE
import Derived.Test.YtefcjccapekjdaaDoorTbN
namespace Go.Proofs.YtefcjccapekjdaaDoor.Tb
open Go.ChangeShapes Go.WideShapes Go.ChangeAt Go.RowKit
open Go.Proofs.YtefcjccapekjdaaDoor
open Go.Proofs.YtefcjccapekjdaaDoor.Wd
open Go.Proofs.YtefcjccapekjdaaDoor.Rec
open Go.Proofs.YtefcjccapekjdaaDoor.Yr
open Go.Proofs.YtefcjccapekjdaaDoor.Clk (yrV yrE)
open Go.Proofs.YtefcjccapekjdaaDoor.Civ (Tab Inv)
set_option linter.unusedVariables false
theorem frH_pos {F L : Int} {l : List Rc} {c : Int} (h : atE F L l c = 0) : frH F L l c ≠ 0 := by
  rw [frH_eq h]; split <;> split <;> decide
theorem same_off {F L : Int} {l : List Rc} {s u : Int} (h : atE F L l s = 0) (h2 : atE F L l u = 0) (hy : yrV s = yrV u) (hk : tSum F L l s = tSum F L l u) : tOff F L l s = tOff F L l u := by
  unfold tOff tSum at *
  rw [if_pos h, if_pos h2] at hk
  rw [if_pos h, if_pos h2]
  unfold rcAt at *
  unfold Rc.off
  rw [hy] at hk ⊢
  rw [hk]
set_option maxRecDepth 20000 in
set_option maxHeartbeats 8000000 in
attribute [-go_sem] run_eql_struct in
theorem hands_any (F L : Int) (A : Option Addr) (n m : Nat) (l : List Rc) (s by_ : Int) (w : World) (hT : Tab w) (hR : Recs w w.heap.size A n l) (hm : n ≤ maxLen) (hby : 0 ≤ by_ ∧ by_ ≤ 4294967295) (hs : -9223372036854775808 ≤ s ∧ s ≤ 9223372036854775807) :
    Calls Tryd.prog 9 #[tbV F L A n m, .int .i64 s, .int .u32 by_] w fun e w' => e = .returned (.bool true) ∧ Below w.heap.size w w' := by
  have i0 := Civ.Inv.start hT
  have hsm := fun w' => small_any F L A n m w' hm
  by_cases hn : n ≤ 60
  · rw [if_pos hn] at hsm
    clear hn
    have hss : 35184372088832 < s ∨ (s ≤ 35184372088832 ∧ s < -35184372088832) ∨ (s ≤ 35184372088832 ∧ -35184372088832 ≤ s) := by omega
    rcases hss with h1 | ⟨h1, h2⟩ | ⟨h1, h2⟩
    · by_cases hov : s + by_ ≤ 9223372036854775807
      · skip
        go_enter Tryd.func9, Tryd.ntmps9
        go_wp2_with fail
        have t_1 := (Wd.Blk.new w 40 (tbA F L A n m))
        have inv_1 := (i0.alloc (.cells (tbA F L A n m) 40))
        refine (begins12_any _ inv_1.1).mono ?_; rintro e w_1 ⟨rfl, hb_1⟩
        have tc_1 := t_1.below hb_1 t_1.lt
        have invc_1 := inv_1.call hb_1
        clear t_1 inv_1 hb_1
        go_wp2_with (first | refine wpList_row_g rfl 40 _ rfl _ rfl _ _ _ _ tc_1 Tryd.underlying40 rfl (by kernel_rfl) ?_)
        have t_2 := tc_1
        have inv_2 := invc_1
        refine (hsm _).mono ?_; rintro e w_2 ⟨rfl, hb_2⟩
        have tc_2 := t_2.below hb_2 t_2.lt
        have invc_2 := inv_2.call hb_2
        clear t_2 inv_2 hb_2
        go_wp2_with fail
        go_ret
        exact ⟨rfl, invc_2.2⟩
      · skip
        go_enter Tryd.func9, Tryd.ntmps9
        go_wp2_with fail
        have t_1 := (Wd.Blk.new w 40 (tbA F L A n m))
        have inv_1 := (i0.alloc (.cells (tbA F L A n m) 40))
        refine (begins12_any _ inv_1.1).mono ?_; rintro e w_1 ⟨rfl, hb_1⟩
        have tc_1 := t_1.below hb_1 t_1.lt
        have invc_1 := inv_1.call hb_1
        clear t_1 inv_1 hb_1
        go_wp2_with (first | refine wpList_row_g rfl 40 _ rfl _ rfl _ _ _ _ tc_1 Tryd.underlying40 rfl (by kernel_rfl) ?_)
        have t_2 := tc_1
        have inv_2 := invc_1
        refine (hsm _).mono ?_; rintro e w_2 ⟨rfl, hb_2⟩
        have tc_2 := t_2.below hb_2 t_2.lt
        have invc_2 := inv_2.call hb_2
        clear t_2 inv_2 hb_2
        go_wp2_with fail
        go_ret
        exact ⟨rfl, invc_2.2⟩
    · skip
      go_enter Tryd.func9, Tryd.ntmps9
      go_wp2_with fail
      have t_1 := (Wd.Blk.new w 40 (tbA F L A n m))
      have inv_1 := (i0.alloc (.cells (tbA F L A n m) 40))
      refine (begins12_any _ inv_1.1).mono ?_; rintro e w_1 ⟨rfl, hb_1⟩
      have tc_1 := t_1.below hb_1 t_1.lt
      have invc_1 := inv_1.call hb_1
      clear t_1 inv_1 hb_1
      go_wp2_with (first | refine wpList_row_g rfl 40 _ rfl _ rfl _ _ _ _ tc_1 Tryd.underlying40 rfl (by kernel_rfl) ?_)
      have t_2 := tc_1
      have inv_2 := invc_1
      refine (hsm _).mono ?_; rintro e w_2 ⟨rfl, hb_2⟩
      have tc_2 := t_2.below hb_2 t_2.lt
      have invc_2 := inv_2.call hb_2
      clear t_2 inv_2 hb_2
      go_wp2_with fail
      go_ret
      exact ⟨rfl, invc_2.2⟩
    · have hu : -9223372036854775808 ≤ s + by_ ∧ s + by_ ≤ 9223372036854775807 := by omega
      have hTo := fun w' (i : Inv w w') => to_any F L A n m _ l s w' i.1 (hR.below i.2) i.2.size hm hs
      have hTu := fun w' (i : Inv w w') => to_any F L A n m _ l (s + by_) w' i.1 (hR.below i.2) i.2.size hm hu
      have hY1 := fun w' => Clk.year_any s w' hs.1 hs.2
      have hY2 := fun w' => Clk.year_any (s + by_) w' hu.1 hu.2
      by_cases he : atE F L l s = 0
      · have hc : toC F L l s = s + tOff F L l s := by unfold toC; rw [if_pos he]
        have hbd1 := to_bd he
        have hv1 := atE_0.1 he
        by_cases he2 : atE F L l (s + by_) = 0
        · have hc2 : toC F L l (s + by_) = s + by_ + tOff F L l (s + by_) := by unfold toC; rw [if_pos he2]
          have hbd2 := to_bd he2
          have hv2 := atE_0.1 he2
          have hsm2 : yrV s = yrV (s + by_) → tSum F L l s = tSum F L l (s + by_) → tOff F L l s = tOff F L l (s + by_) := same_off he he2
          have hFr := fun w' (i : Inv w w') => from_any F L A n m _ l (s + tOff F L l s) w' i.1 (hR.below i.2) i.2.size hm (by omega)
          have hY3 := fun w' => Clk.year_any (s + tOff F L l s) w' (by omega) (by omega)
          rw [hc, he] at hTo; rw [hc2, he2] at hTu; rw [hv1.2.1] at hY1; rw [hv2.2.1] at hY2
          obtain ⟨c, hcc⟩ : ∃ c, c = s + tOff F L l s := ⟨_, rfl⟩
          by_cases he3 : atE F L l c = 0
          · have hG := local_gap he3
            have h' := atE_0.1 he3
            have y2 := (yr_bd h'.2.1).2.1
            have hPk := fun w' (i : Inv w w') => pick_at (c := m) (y := yrV c) i.1 (hR.below i.2) i.2.size hm h'.1 h'.2.2 y2
            have hAt := fun t w' (i : Inv w w') => at_at (t := t) i.1 (pick_bd hR h'.1 (yrV c)) (pick_ok h'.1 (yrV c)) h'.2.2 y2
            have hA0 := hAt (frC F L l c)
            have hnr := Rc.near (pick_ok h'.1 (yrV c))
            have hH := frH_pos he3
            rw [← hcc] at hFr hY3
            rw [he3] at hFr; rw [h'.2.1] at hY3
            clear he he2 he3 h' hv1 hv2 hc hc2 hAt
            generalize pick F L l (yrV c) = r at *
            generalize yrV c = Y3 at *
            generalize yrV s = Y1 at *
            generalize yrV (s + by_) = Y2 at *
            generalize tOff F L l s = o at *
            generalize tSum F L l s = k at *
            generalize tOff F L l (s + by_) = o2 at *
            generalize tSum F L l (s + by_) = k2 at *
            obtain ⟨⟨n1, n2⟩, n3, n4⟩ := hnr
            obtain ⟨_, o1, o2'⟩ := hbd1
            obtain ⟨_, o3, o4⟩ := hbd2
            subst hcc
            have hcase : (∃ p q, frC F L l (s + o) = p ∧ r.off Y3 p = q ∧ frH F L l (s + o) ≠ 3 ∧ p + q = s + o ∧ -100000 ≤ q ∧ q ≤ 100000) ∨ frH F L l (s + o) = 3 := by
              rcases hG with ⟨g1, ⟨g2, g3⟩ | ⟨g2, g3⟩⟩ | ⟨g1, _⟩
              · exact Or.inl ⟨_, _, rfl, g3, g1, by omega, by omega, by omega⟩
              · exact Or.inl ⟨_, _, rfl, g3, g1, by omega, by omega, by omega⟩
              · exact Or.inr g1
            clear hG
            by_cases hyy : Y1 = Y2 ∧ k = k2
            · obtain ⟨rfl, rfl⟩ := hyy
              obtain rfl := hsm2 rfl rfl
              clear hsm2
              have hd : (s + by_ + o - (s + o) != s + by_ - s) = false := by rw [bne_eq_false_iff_eq]; omega
              rcases hcase with ⟨p, q, hp, hq, hh, hpq, q1, q2⟩ | hh
              · have hh3 : (frH F L l (s + o) != 0) = true := by simp [hH]
                have hh4 : (frH F L l (s + o) == 3) = false := by simp [hh]
                rw [hp] at hFr hA0; rw [hq] at hA0
                have hpq' : (p + q == s + o) = true := by simp [hpq]
                have hbp : -9223372036854775808 ≤ p ∧ p ≤ 9223372036854775807 := by omega
                generalize r.sum Y3 p = k3 at *
                generalize frH F L l (s + o) = h at *
                go_enter Tryd.func9, Tryd.ntmps9
                go_wp2_with fail
                have t_1 := (Wd.Blk.new w 40 (tbA F L A n m))
                have inv_1 := (i0.alloc (.cells (tbA F L A n m) 40))
                refine (begins12_any _ inv_1.1).mono ?_; rintro e w_1 ⟨rfl, hb_1⟩
                have tc_1 := t_1.below hb_1 t_1.lt
                have invc_1 := inv_1.call hb_1
                clear t_1 inv_1 hb_1
                go_wp2_with (first | refine wpList_row_g rfl 40 _ rfl _ rfl _ _ _ _ tc_1 Tryd.underlying40 rfl (by kernel_rfl) ?_)
                have t_2 := tc_1
                have inv_2 := invc_1
                refine (hsm _).mono ?_; rintro e w_2 ⟨rfl, hb_2⟩
                have tc_2 := t_2.below hb_2 t_2.lt
                have invc_2 := inv_2.call hb_2
                clear t_2 inv_2 hb_2
                go_wp2_with (first | refine wpList_row_g rfl 40 _ rfl _ rfl _ _ _ _ tc_2 Tryd.underlying40 rfl (by kernel_rfl) ?_)
                have t_3 := tc_2
                have inv_3 := invc_2
                refine (hTo _ inv_3).mono ?_; rintro e w_3 ⟨rfl, hb_3⟩
                have tc_3 := t_3.below hb_3 t_3.lt
                have invc_3 := inv_3.call hb_3
                clear t_3 inv_3 hb_3
                have t_4 := (tc_3.alloc (.cells (stA0 o k) 43))
                have x_4 := (Wd.Blk.new w_3 43 (stA0 o k))
                have inv_4 := (invc_3.alloc (.cells (stA0 o k) 43))
                go_wp2_with (first | refine wpList_store_new rfl 43 _ _ rfl rfl w_3.heap.size (stA0 o k) rfl rfl _ (stA0 0 false) w_3 rfl rfl rfl (by kernel_rfl) (by kernel_rfl) ?_ | refine wpList_row_g rfl 40 _ rfl _ rfl _ _ _ _ t_4 Tryd.underlying40 rfl (by kernel_rfl) ?_)
                have t_5 := t_4
                have x_5 := x_4
                have inv_5 := inv_4
                refine (hTu _ inv_5).mono ?_; rintro e w_5 ⟨rfl, hb_5⟩
                have tc_5 := t_5.below hb_5 t_5.lt
                have xc_5 := x_5.below hb_5 x_5.lt
                have invc_5 := inv_5.call hb_5
                clear t_5 x_5 inv_5 hb_5
                have t_6 := (tc_5.alloc (.cells (stA0 o k) 43))
                have x_6 := (xc_5.alloc (.cells (stA0 o k) 43))
                have y_6 := (Wd.Blk.new w_5 43 (stA0 o k))
                have inv_6 := (invc_5.alloc (.cells (stA0 o k) 43))
                go_wp2_with (first | refine wpList_store_new rfl 43 _ _ rfl rfl w_5.heap.size (stA0 o k) rfl rfl _ (stA0 0 false) w_5 rfl rfl rfl (by kernel_rfl) (by kernel_rfl) ?_)
                have t_7 := t_6
                have x_7 := x_6
                have y_7 := y_6
                have inv_7 := inv_6
                refine (hY1 _).mono ?_; rintro e w_7 ⟨rfl, hb_7⟩
                have tc_7 := t_7.below hb_7 t_7.lt
                have xc_7 := x_7.below hb_7 x_7.lt
                have yc_7 := y_7.below hb_7 y_7.lt
                have invc_7 := inv_7.call hb_7
                clear t_7 x_7 y_7 inv_7 hb_7
                go_wp2_with fail
                have t_8 := tc_7
                have x_8 := xc_7
                have y_8 := yc_7
                have inv_8 := invc_7
                refine (hY2 _).mono ?_; rintro e w_8 ⟨rfl, hb_8⟩
                have tc_8 := t_8.below hb_8 t_8.lt
                have xc_8 := x_8.below hb_8 x_8.lt
                have yc_8 := y_8.below hb_8 y_8.lt
                have invc_8 := inv_8.call hb_8
                clear t_8 x_8 y_8 inv_8 hb_8
                have x0 := xc_8.cell 0; have x1 := xc_8.cell 1; simp at x0 x1
                have y0 := yc_8.cell 0; have y1 := yc_8.cell 1; simp at y0 y1
                go_wp2_with (first | refine wpList_row_g rfl 40 _ rfl _ rfl _ _ _ _ tc_8 Tryd.underlying40 rfl (by kernel_rfl) ?_)
                have t_9 := tc_8
                have inv_9 := invc_8
                refine (hFr _ inv_9).mono ?_; rintro e w_9 ⟨rfl, hb_9⟩
                have tc_9 := t_9.below hb_9 t_9.lt
                have invc_9 := inv_9.call hb_9
                clear t_9 inv_9 hb_9
                go_wp2_with fail
                have t_10 := tc_9
                have inv_10 := invc_9
                refine (hY3 _).mono ?_; rintro e w_10 ⟨rfl, hb_10⟩
                have tc_10 := t_10.below hb_10 t_10.lt
                have invc_10 := inv_10.call hb_10
                clear t_10 inv_10 hb_10
                go_wp2_with (first | refine wpList_row_g rfl 40 _ rfl _ rfl _ _ _ _ tc_10 Tryd.underlying40 rfl (by kernel_rfl) ?_)
                have t_11 := tc_10
                have inv_11 := invc_10
                refine (hPk _ inv_11).mono ?_; rintro e w_11 ⟨rfl, hb_11⟩
                have tc_11 := t_11.below hb_11 t_11.lt
                have invc_11 := inv_11.call hb_11
                clear t_11 inv_11 hb_11
                have r_12 := (Wd.Blk.new w_11 26 r.A)
                have inv_12 := (invc_11.alloc (.cells r.A 26))
                go_wp2_with (first | refine wpList_store_new rfl 26 _ _ rfl rfl w_11.heap.size r.A rfl rfl _ z19 w_11 rfl rfl rfl (by kernel_rfl) (by kernel_rfl) ?_ | refine wpList_row_g rfl 26 _ rfl _ rfl _ _ _ _ r_12 Tryd.underlying26 rfl (by kernel_rfl) ?_)
                have r_13 := r_12
                have inv_13 := inv_12
                refine (hA0 _ inv_13).mono ?_; rintro e w_13 ⟨rfl, hb_13⟩
                have rc_13 := r_13.below hb_13 r_13.lt
                have invc_13 := inv_13.call hb_13
                clear r_13 inv_13 hb_13
                have z_14 := (Wd.Blk.new w_13 43 (stA0 q k3))
                have inv_14 := (invc_13.alloc (.cells (stA0 q k3) 43))
                have z0 := z_14.cell 0; simp at z0
                go_upto_region 24 with (first | refine wpList_store_new rfl 43 _ _ rfl rfl w_13.heap.size (stA0 q k3) rfl rfl _ (stA0 0 false) w_13 rfl rfl rfl (by kernel_rfl) (by kernel_rfl) ?_)
                go_wp2_with fail
                go_ret
                exact ⟨rfl, inv_14.2⟩
              · rw [hh] at hFr
                generalize r.off Y3 (frC F L l (s + o)) = q at *
                generalize r.sum Y3 (frC F L l (s + o)) = k3 at *
                generalize frC F L l (s + o) = p at *
                go_enter Tryd.func9, Tryd.ntmps9
                go_wp2_with fail
                have t_1 := (Wd.Blk.new w 40 (tbA F L A n m))
                have inv_1 := (i0.alloc (.cells (tbA F L A n m) 40))
                refine (begins12_any _ inv_1.1).mono ?_; rintro e w_1 ⟨rfl, hb_1⟩
                have tc_1 := t_1.below hb_1 t_1.lt
                have invc_1 := inv_1.call hb_1
                clear t_1 inv_1 hb_1
                go_wp2_with (first | refine wpList_row_g rfl 40 _ rfl _ rfl _ _ _ _ tc_1 Tryd.underlying40 rfl (by kernel_rfl) ?_)
                have t_2 := tc_1
                have inv_2 := invc_1
                refine (hsm _).mono ?_; rintro e w_2 ⟨rfl, hb_2⟩
                have tc_2 := t_2.below hb_2 t_2.lt
                have invc_2 := inv_2.call hb_2
                clear t_2 inv_2 hb_2
                go_wp2_with (first | refine wpList_row_g rfl 40 _ rfl _ rfl _ _ _ _ tc_2 Tryd.underlying40 rfl (by kernel_rfl) ?_)
                have t_3 := tc_2
                have inv_3 := invc_2
                refine (hTo _ inv_3).mono ?_; rintro e w_3 ⟨rfl, hb_3⟩
                have tc_3 := t_3.below hb_3 t_3.lt
                have invc_3 := inv_3.call hb_3
                clear t_3 inv_3 hb_3
                have t_4 := (tc_3.alloc (.cells (stA0 o k) 43))
                have x_4 := (Wd.Blk.new w_3 43 (stA0 o k))
                have inv_4 := (invc_3.alloc (.cells (stA0 o k) 43))
                go_wp2_with (first | refine wpList_store_new rfl 43 _ _ rfl rfl w_3.heap.size (stA0 o k) rfl rfl _ (stA0 0 false) w_3 rfl rfl rfl (by kernel_rfl) (by kernel_rfl) ?_ | refine wpList_row_g rfl 40 _ rfl _ rfl _ _ _ _ t_4 Tryd.underlying40 rfl (by kernel_rfl) ?_)
                have t_5 := t_4
                have x_5 := x_4
                have inv_5 := inv_4
                refine (hTu _ inv_5).mono ?_; rintro e w_5 ⟨rfl, hb_5⟩
                have tc_5 := t_5.below hb_5 t_5.lt
                have xc_5 := x_5.below hb_5 x_5.lt
                have invc_5 := inv_5.call hb_5
                clear t_5 x_5 inv_5 hb_5
                have t_6 := (tc_5.alloc (.cells (stA0 o k) 43))
                have x_6 := (xc_5.alloc (.cells (stA0 o k) 43))
                have y_6 := (Wd.Blk.new w_5 43 (stA0 o k))
                have inv_6 := (invc_5.alloc (.cells (stA0 o k) 43))
                go_wp2_with (first | refine wpList_store_new rfl 43 _ _ rfl rfl w_5.heap.size (stA0 o k) rfl rfl _ (stA0 0 false) w_5 rfl rfl rfl (by kernel_rfl) (by kernel_rfl) ?_)
                have t_7 := t_6
                have x_7 := x_6
                have y_7 := y_6
                have inv_7 := inv_6
                refine (hY1 _).mono ?_; rintro e w_7 ⟨rfl, hb_7⟩
                have tc_7 := t_7.below hb_7 t_7.lt
                have xc_7 := x_7.below hb_7 x_7.lt
                have yc_7 := y_7.below hb_7 y_7.lt
                have invc_7 := inv_7.call hb_7
                clear t_7 x_7 y_7 inv_7 hb_7
                go_wp2_with fail
                have t_8 := tc_7
                have x_8 := xc_7
                have y_8 := yc_7
                have inv_8 := invc_7
                refine (hY2 _).mono ?_; rintro e w_8 ⟨rfl, hb_8⟩
                have tc_8 := t_8.below hb_8 t_8.lt
                have xc_8 := x_8.below hb_8 x_8.lt
                have yc_8 := y_8.below hb_8 y_8.lt
                have invc_8 := inv_8.call hb_8
                clear t_8 x_8 y_8 inv_8 hb_8
                have x0 := xc_8.cell 0; have x1 := xc_8.cell 1; simp at x0 x1
                have y0 := yc_8.cell 0; have y1 := yc_8.cell 1; simp at y0 y1
                go_wp2_with (first | refine wpList_row_g rfl 40 _ rfl _ rfl _ _ _ _ tc_8 Tryd.underlying40 rfl (by kernel_rfl) ?_)
                have t_9 := tc_8
                have inv_9 := invc_8
                refine (hFr _ inv_9).mono ?_; rintro e w_9 ⟨rfl, hb_9⟩
                have tc_9 := t_9.below hb_9 t_9.lt
                have invc_9 := inv_9.call hb_9
                clear t_9 inv_9 hb_9
                go_wp2_with fail
                have t_10 := tc_9
                have inv_10 := invc_9
                refine (hY3 _).mono ?_; rintro e w_10 ⟨rfl, hb_10⟩
                have tc_10 := t_10.below hb_10 t_10.lt
                have invc_10 := inv_10.call hb_10
                clear t_10 inv_10 hb_10
                go_wp2_with (first | refine wpList_row_g rfl 40 _ rfl _ rfl _ _ _ _ tc_10 Tryd.underlying40 rfl (by kernel_rfl) ?_)
                have t_11 := tc_10
                have inv_11 := invc_10
                refine (hPk _ inv_11).mono ?_; rintro e w_11 ⟨rfl, hb_11⟩
                have tc_11 := t_11.below hb_11 t_11.lt
                have invc_11 := inv_11.call hb_11
                clear t_11 inv_11 hb_11
                have r_12 := (Wd.Blk.new w_11 26 r.A)
                have inv_12 := (invc_11.alloc (.cells r.A 26))
                go_wp2_with (first | refine wpList_store_new rfl 26 _ _ rfl rfl w_11.heap.size r.A rfl rfl _ z19 w_11 rfl rfl rfl (by kernel_rfl) (by kernel_rfl) ?_ | refine wpList_row_g rfl 26 _ rfl _ rfl _ _ _ _ r_12 Tryd.underlying26 rfl (by kernel_rfl) ?_)
                have r_13 := r_12
                have inv_13 := inv_12
                refine (hA0 _ inv_13).mono ?_; rintro e w_13 ⟨rfl, hb_13⟩
                have rc_13 := r_13.below hb_13 r_13.lt
                have invc_13 := inv_13.call hb_13
                clear r_13 inv_13 hb_13
                have z_14 := (Wd.Blk.new w_13 43 (stA0 q k3))
                have inv_14 := (invc_13.alloc (.cells (stA0 q k3) 43))
                have z0 := z_14.cell 0; simp at z0
                go_upto_region 24 with (first | refine wpList_store_new rfl 43 _ _ rfl rfl w_13.heap.size (stA0 q k3) rfl rfl _ (stA0 0 false) w_13 rfl rfl rfl (by kernel_rfl) (by kernel_rfl) ?_)
                go_wp2_with fail
                go_ret
                exact ⟨rfl, inv_14.2⟩
            · clear hsm2
              have hyy' : (Y1 == Y2) = false ∨ ((Y1 == Y2) = true ∧ (k == k2) = false) := by
                by_cases h : Y1 = Y2
                · right; refine ⟨by simp [h], ?_⟩
                  rw [beq_eq_false_iff_ne]; intro h2; exact hyy ⟨h, h2⟩
                · left; simp [h]
              clear hyy
              rcases hyy' with hya | ⟨hya, hyb⟩
              · skip
                rcases hcase with ⟨p, q, hp, hq, hh, hpq, q1, q2⟩ | hh
                · have hh3 : (frH F L l (s + o) != 0) = true := by simp [hH]
                  have hh4 : (frH F L l (s + o) == 3) = false := by simp [hh]
                  rw [hp] at hFr hA0; rw [hq] at hA0
                  have hpq' : (p + q == s + o) = true := by simp [hpq]
                  have hbp : -9223372036854775808 ≤ p ∧ p ≤ 9223372036854775807 := by omega
                  generalize r.sum Y3 p = k3 at *
                  generalize frH F L l (s + o) = h at *
                  go_enter Tryd.func9, Tryd.ntmps9
                  go_wp2_with fail
                  have t_1 := (Wd.Blk.new w 40 (tbA F L A n m))
                  have inv_1 := (i0.alloc (.cells (tbA F L A n m) 40))
                  refine (begins12_any _ inv_1.1).mono ?_; rintro e w_1 ⟨rfl, hb_1⟩
                  have tc_1 := t_1.below hb_1 t_1.lt
                  have invc_1 := inv_1.call hb_1
                  clear t_1 inv_1 hb_1
                  go_wp2_with (first | refine wpList_row_g rfl 40 _ rfl _ rfl _ _ _ _ tc_1 Tryd.underlying40 rfl (by kernel_rfl) ?_)
                  have t_2 := tc_1
                  have inv_2 := invc_1
                  refine (hsm _).mono ?_; rintro e w_2 ⟨rfl, hb_2⟩
                  have tc_2 := t_2.below hb_2 t_2.lt
                  have invc_2 := inv_2.call hb_2
                  clear t_2 inv_2 hb_2
                  go_wp2_with (first | refine wpList_row_g rfl 40 _ rfl _ rfl _ _ _ _ tc_2 Tryd.underlying40 rfl (by kernel_rfl) ?_)
                  have t_3 := tc_2
                  have inv_3 := invc_2
                  refine (hTo _ inv_3).mono ?_; rintro e w_3 ⟨rfl, hb_3⟩
                  have tc_3 := t_3.below hb_3 t_3.lt
                  have invc_3 := inv_3.call hb_3
                  clear t_3 inv_3 hb_3
                  have t_4 := (tc_3.alloc (.cells (stA0 o k) 43))
                  have x_4 := (Wd.Blk.new w_3 43 (stA0 o k))
                  have inv_4 := (invc_3.alloc (.cells (stA0 o k) 43))
                  go_wp2_with (first | refine wpList_store_new rfl 43 _ _ rfl rfl w_3.heap.size (stA0 o k) rfl rfl _ (stA0 0 false) w_3 rfl rfl rfl (by kernel_rfl) (by kernel_rfl) ?_ | refine wpList_row_g rfl 40 _ rfl _ rfl _ _ _ _ t_4 Tryd.underlying40 rfl (by kernel_rfl) ?_)
                  have t_5 := t_4
                  have x_5 := x_4
                  have inv_5 := inv_4
                  refine (hTu _ inv_5).mono ?_; rintro e w_5 ⟨rfl, hb_5⟩
                  have tc_5 := t_5.below hb_5 t_5.lt
                  have xc_5 := x_5.below hb_5 x_5.lt
                  have invc_5 := inv_5.call hb_5
                  clear t_5 x_5 inv_5 hb_5
                  have t_6 := (tc_5.alloc (.cells (stA0 o2 k2) 43))
                  have x_6 := (xc_5.alloc (.cells (stA0 o2 k2) 43))
                  have y_6 := (Wd.Blk.new w_5 43 (stA0 o2 k2))
                  have inv_6 := (invc_5.alloc (.cells (stA0 o2 k2) 43))
                  go_wp2_with (first | refine wpList_store_new rfl 43 _ _ rfl rfl w_5.heap.size (stA0 o2 k2) rfl rfl _ (stA0 0 false) w_5 rfl rfl rfl (by kernel_rfl) (by kernel_rfl) ?_)
                  have t_7 := t_6
                  have x_7 := x_6
                  have y_7 := y_6
                  have inv_7 := inv_6
                  refine (hY1 _).mono ?_; rintro e w_7 ⟨rfl, hb_7⟩
                  have tc_7 := t_7.below hb_7 t_7.lt
                  have xc_7 := x_7.below hb_7 x_7.lt
                  have yc_7 := y_7.below hb_7 y_7.lt
                  have invc_7 := inv_7.call hb_7
                  clear t_7 x_7 y_7 inv_7 hb_7
                  go_wp2_with fail
                  have t_8 := tc_7
                  have x_8 := xc_7
                  have y_8 := yc_7
                  have inv_8 := invc_7
                  refine (hY2 _).mono ?_; rintro e w_8 ⟨rfl, hb_8⟩
                  have tc_8 := t_8.below hb_8 t_8.lt
                  have xc_8 := x_8.below hb_8 x_8.lt
                  have yc_8 := y_8.below hb_8 y_8.lt
                  have invc_8 := inv_8.call hb_8
                  clear t_8 x_8 y_8 inv_8 hb_8
                  have x0 := xc_8.cell 0; have x1 := xc_8.cell 1; simp at x0 x1
                  have y0 := yc_8.cell 0; have y1 := yc_8.cell 1; simp at y0 y1
                  go_wp2_with (first | refine wpList_row_g rfl 40 _ rfl _ rfl _ _ _ _ tc_8 Tryd.underlying40 rfl (by kernel_rfl) ?_)
                  have t_9 := tc_8
                  have inv_9 := invc_8
                  refine (hFr _ inv_9).mono ?_; rintro e w_9 ⟨rfl, hb_9⟩
                  have tc_9 := t_9.below hb_9 t_9.lt
                  have invc_9 := inv_9.call hb_9
                  clear t_9 inv_9 hb_9
                  go_wp2_with fail
                  have t_10 := tc_9
                  have inv_10 := invc_9
                  refine (hY3 _).mono ?_; rintro e w_10 ⟨rfl, hb_10⟩
                  have tc_10 := t_10.below hb_10 t_10.lt
                  have invc_10 := inv_10.call hb_10
                  clear t_10 inv_10 hb_10
                  go_wp2_with (first | refine wpList_row_g rfl 40 _ rfl _ rfl _ _ _ _ tc_10 Tryd.underlying40 rfl (by kernel_rfl) ?_)
                  have t_11 := tc_10
                  have inv_11 := invc_10
                  refine (hPk _ inv_11).mono ?_; rintro e w_11 ⟨rfl, hb_11⟩
                  have tc_11 := t_11.below hb_11 t_11.lt
                  have invc_11 := inv_11.call hb_11
                  clear t_11 inv_11 hb_11
                  have r_12 := (Wd.Blk.new w_11 26 r.A)
                  have inv_12 := (invc_11.alloc (.cells r.A 26))
                  go_wp2_with (first | refine wpList_store_new rfl 26 _ _ rfl rfl w_11.heap.size r.A rfl rfl _ z19 w_11 rfl rfl rfl (by kernel_rfl) (by kernel_rfl) ?_ | refine wpList_row_g rfl 26 _ rfl _ rfl _ _ _ _ r_12 Tryd.underlying26 rfl (by kernel_rfl) ?_)
                  have r_13 := r_12
                  have inv_13 := inv_12
                  refine (hA0 _ inv_13).mono ?_; rintro e w_13 ⟨rfl, hb_13⟩
                  have rc_13 := r_13.below hb_13 r_13.lt
                  have invc_13 := inv_13.call hb_13
                  clear r_13 inv_13 hb_13
                  have z_14 := (Wd.Blk.new w_13 43 (stA0 q k3))
                  have inv_14 := (invc_13.alloc (.cells (stA0 q k3) 43))
                  have z0 := z_14.cell 0; simp at z0
                  go_upto_region 24 with (first | refine wpList_store_new rfl 43 _ _ rfl rfl w_13.heap.size (stA0 q k3) rfl rfl _ (stA0 0 false) w_13 rfl rfl rfl (by kernel_rfl) (by kernel_rfl) ?_)
                  go_wp2_with fail
                  go_ret
                  exact ⟨rfl, inv_14.2⟩
                · rw [hh] at hFr
                  generalize r.off Y3 (frC F L l (s + o)) = q at *
                  generalize r.sum Y3 (frC F L l (s + o)) = k3 at *
                  generalize frC F L l (s + o) = p at *
                  go_enter Tryd.func9, Tryd.ntmps9
                  go_wp2_with fail
                  have t_1 := (Wd.Blk.new w 40 (tbA F L A n m))
                  have inv_1 := (i0.alloc (.cells (tbA F L A n m) 40))
                  refine (begins12_any _ inv_1.1).mono ?_; rintro e w_1 ⟨rfl, hb_1⟩
                  have tc_1 := t_1.below hb_1 t_1.lt
                  have invc_1 := inv_1.call hb_1
                  clear t_1 inv_1 hb_1
                  go_wp2_with (first | refine wpList_row_g rfl 40 _ rfl _ rfl _ _ _ _ tc_1 Tryd.underlying40 rfl (by kernel_rfl) ?_)
                  have t_2 := tc_1
                  have inv_2 := invc_1
                  refine (hsm _).mono ?_; rintro e w_2 ⟨rfl, hb_2⟩
                  have tc_2 := t_2.below hb_2 t_2.lt
                  have invc_2 := inv_2.call hb_2
                  clear t_2 inv_2 hb_2
                  go_wp2_with (first | refine wpList_row_g rfl 40 _ rfl _ rfl _ _ _ _ tc_2 Tryd.underlying40 rfl (by kernel_rfl) ?_)
                  have t_3 := tc_2
                  have inv_3 := invc_2
                  refine (hTo _ inv_3).mono ?_; rintro e w_3 ⟨rfl, hb_3⟩
                  have tc_3 := t_3.below hb_3 t_3.lt
                  have invc_3 := inv_3.call hb_3
                  clear t_3 inv_3 hb_3
                  have t_4 := (tc_3.alloc (.cells (stA0 o k) 43))
                  have x_4 := (Wd.Blk.new w_3 43 (stA0 o k))
                  have inv_4 := (invc_3.alloc (.cells (stA0 o k) 43))
                  go_wp2_with (first | refine wpList_store_new rfl 43 _ _ rfl rfl w_3.heap.size (stA0 o k) rfl rfl _ (stA0 0 false) w_3 rfl rfl rfl (by kernel_rfl) (by kernel_rfl) ?_ | refine wpList_row_g rfl 40 _ rfl _ rfl _ _ _ _ t_4 Tryd.underlying40 rfl (by kernel_rfl) ?_)
                  have t_5 := t_4
                  have x_5 := x_4
                  have inv_5 := inv_4
                  refine (hTu _ inv_5).mono ?_; rintro e w_5 ⟨rfl, hb_5⟩
                  have tc_5 := t_5.below hb_5 t_5.lt
                  have xc_5 := x_5.below hb_5 x_5.lt
                  have invc_5 := inv_5.call hb_5
                  clear t_5 x_5 inv_5 hb_5
                  have t_6 := (tc_5.alloc (.cells (stA0 o2 k2) 43))
                  have x_6 := (xc_5.alloc (.cells (stA0 o2 k2) 43))
                  have y_6 := (Wd.Blk.new w_5 43 (stA0 o2 k2))
                  have inv_6 := (invc_5.alloc (.cells (stA0 o2 k2) 43))
                  go_wp2_with (first | refine wpList_store_new rfl 43 _ _ rfl rfl w_5.heap.size (stA0 o2 k2) rfl rfl _ (stA0 0 false) w_5 rfl rfl rfl (by kernel_rfl) (by kernel_rfl) ?_)
                  have t_7 := t_6
                  have x_7 := x_6
                  have y_7 := y_6
                  have inv_7 := inv_6
                  refine (hY1 _).mono ?_; rintro e w_7 ⟨rfl, hb_7⟩
                  have tc_7 := t_7.below hb_7 t_7.lt
                  have xc_7 := x_7.below hb_7 x_7.lt
                  have yc_7 := y_7.below hb_7 y_7.lt
                  have invc_7 := inv_7.call hb_7
                  clear t_7 x_7 y_7 inv_7 hb_7
                  go_wp2_with fail
                  have t_8 := tc_7
                  have x_8 := xc_7
                  have y_8 := yc_7
                  have inv_8 := invc_7
                  refine (hY2 _).mono ?_; rintro e w_8 ⟨rfl, hb_8⟩
                  have tc_8 := t_8.below hb_8 t_8.lt
                  have xc_8 := x_8.below hb_8 x_8.lt
                  have yc_8 := y_8.below hb_8 y_8.lt
                  have invc_8 := inv_8.call hb_8
                  clear t_8 x_8 y_8 inv_8 hb_8
                  have x0 := xc_8.cell 0; have x1 := xc_8.cell 1; simp at x0 x1
                  have y0 := yc_8.cell 0; have y1 := yc_8.cell 1; simp at y0 y1
                  go_wp2_with (first | refine wpList_row_g rfl 40 _ rfl _ rfl _ _ _ _ tc_8 Tryd.underlying40 rfl (by kernel_rfl) ?_)
                  have t_9 := tc_8
                  have inv_9 := invc_8
                  refine (hFr _ inv_9).mono ?_; rintro e w_9 ⟨rfl, hb_9⟩
                  have tc_9 := t_9.below hb_9 t_9.lt
                  have invc_9 := inv_9.call hb_9
                  clear t_9 inv_9 hb_9
                  go_wp2_with fail
                  have t_10 := tc_9
                  have inv_10 := invc_9
                  refine (hY3 _).mono ?_; rintro e w_10 ⟨rfl, hb_10⟩
                  have tc_10 := t_10.below hb_10 t_10.lt
                  have invc_10 := inv_10.call hb_10
                  clear t_10 inv_10 hb_10
                  go_wp2_with (first | refine wpList_row_g rfl 40 _ rfl _ rfl _ _ _ _ tc_10 Tryd.underlying40 rfl (by kernel_rfl) ?_)
                  have t_11 := tc_10
                  have inv_11 := invc_10
                  refine (hPk _ inv_11).mono ?_; rintro e w_11 ⟨rfl, hb_11⟩
                  have tc_11 := t_11.below hb_11 t_11.lt
                  have invc_11 := inv_11.call hb_11
                  clear t_11 inv_11 hb_11
                  have r_12 := (Wd.Blk.new w_11 26 r.A)
                  have inv_12 := (invc_11.alloc (.cells r.A 26))
                  go_wp2_with (first | refine wpList_store_new rfl 26 _ _ rfl rfl w_11.heap.size r.A rfl rfl _ z19 w_11 rfl rfl rfl (by kernel_rfl) (by kernel_rfl) ?_ | refine wpList_row_g rfl 26 _ rfl _ rfl _ _ _ _ r_12 Tryd.underlying26 rfl (by kernel_rfl) ?_)
                  have r_13 := r_12
                  have inv_13 := inv_12
                  refine (hA0 _ inv_13).mono ?_; rintro e w_13 ⟨rfl, hb_13⟩
                  have rc_13 := r_13.below hb_13 r_13.lt
                  have invc_13 := inv_13.call hb_13
                  clear r_13 inv_13 hb_13
                  have z_14 := (Wd.Blk.new w_13 43 (stA0 q k3))
                  have inv_14 := (invc_13.alloc (.cells (stA0 q k3) 43))
                  have z0 := z_14.cell 0; simp at z0
                  go_upto_region 24 with (first | refine wpList_store_new rfl 43 _ _ rfl rfl w_13.heap.size (stA0 q k3) rfl rfl _ (stA0 0 false) w_13 rfl rfl rfl (by kernel_rfl) (by kernel_rfl) ?_)
                  go_wp2_with fail
                  go_ret
                  exact ⟨rfl, inv_14.2⟩
              · skip
                rcases hcase with ⟨p, q, hp, hq, hh, hpq, q1, q2⟩ | hh
                · have hh3 : (frH F L l (s + o) != 0) = true := by simp [hH]
                  have hh4 : (frH F L l (s + o) == 3) = false := by simp [hh]
                  rw [hp] at hFr hA0; rw [hq] at hA0
                  have hpq' : (p + q == s + o) = true := by simp [hpq]
                  have hbp : -9223372036854775808 ≤ p ∧ p ≤ 9223372036854775807 := by omega
                  generalize r.sum Y3 p = k3 at *
                  generalize frH F L l (s + o) = h at *
                  go_enter Tryd.func9, Tryd.ntmps9
                  go_wp2_with fail
                  have t_1 := (Wd.Blk.new w 40 (tbA F L A n m))
                  have inv_1 := (i0.alloc (.cells (tbA F L A n m) 40))
                  refine (begins12_any _ inv_1.1).mono ?_; rintro e w_1 ⟨rfl, hb_1⟩
                  have tc_1 := t_1.below hb_1 t_1.lt
                  have invc_1 := inv_1.call hb_1
                  clear t_1 inv_1 hb_1
                  go_wp2_with (first | refine wpList_row_g rfl 40 _ rfl _ rfl _ _ _ _ tc_1 Tryd.underlying40 rfl (by kernel_rfl) ?_)
                  have t_2 := tc_1
                  have inv_2 := invc_1
                  refine (hsm _).mono ?_; rintro e w_2 ⟨rfl, hb_2⟩
                  have tc_2 := t_2.below hb_2 t_2.lt
                  have invc_2 := inv_2.call hb_2
                  clear t_2 inv_2 hb_2
                  go_wp2_with (first | refine wpList_row_g rfl 40 _ rfl _ rfl _ _ _ _ tc_2 Tryd.underlying40 rfl (by kernel_rfl) ?_)
                  have t_3 := tc_2
                  have inv_3 := invc_2
                  refine (hTo _ inv_3).mono ?_; rintro e w_3 ⟨rfl, hb_3⟩
                  have tc_3 := t_3.below hb_3 t_3.lt
                  have invc_3 := inv_3.call hb_3
                  clear t_3 inv_3 hb_3
                  have t_4 := (tc_3.alloc (.cells (stA0 o k) 43))
                  have x_4 := (Wd.Blk.new w_3 43 (stA0 o k))
                  have inv_4 := (invc_3.alloc (.cells (stA0 o k) 43))
                  go_wp2_with (first | refine wpList_store_new rfl 43 _ _ rfl rfl w_3.heap.size (stA0 o k) rfl rfl _ (stA0 0 false) w_3 rfl rfl rfl (by kernel_rfl) (by kernel_rfl) ?_ | refine wpList_row_g rfl 40 _ rfl _ rfl _ _ _ _ t_4 Tryd.underlying40 rfl (by kernel_rfl) ?_)
                  have t_5 := t_4
                  have x_5 := x_4
                  have inv_5 := inv_4
                  refine (hTu _ inv_5).mono ?_; rintro e w_5 ⟨rfl, hb_5⟩
                  have tc_5 := t_5.below hb_5 t_5.lt
                  have xc_5 := x_5.below hb_5 x_5.lt
                  have invc_5 := inv_5.call hb_5
                  clear t_5 x_5 inv_5 hb_5
                  have t_6 := (tc_5.alloc (.cells (stA0 o2 k2) 43))
                  have x_6 := (xc_5.alloc (.cells (stA0 o2 k2) 43))
                  have y_6 := (Wd.Blk.new w_5 43 (stA0 o2 k2))
                  have inv_6 := (invc_5.alloc (.cells (stA0 o2 k2) 43))
                  go_wp2_with (first | refine wpList_store_new rfl 43 _ _ rfl rfl w_5.heap.size (stA0 o2 k2) rfl rfl _ (stA0 0 false) w_5 rfl rfl rfl (by kernel_rfl) (by kernel_rfl) ?_)
                  have t_7 := t_6
                  have x_7 := x_6
                  have y_7 := y_6
                  have inv_7 := inv_6
                  refine (hY1 _).mono ?_; rintro e w_7 ⟨rfl, hb_7⟩
                  have tc_7 := t_7.below hb_7 t_7.lt
                  have xc_7 := x_7.below hb_7 x_7.lt
                  have yc_7 := y_7.below hb_7 y_7.lt
                  have invc_7 := inv_7.call hb_7
                  clear t_7 x_7 y_7 inv_7 hb_7
                  go_wp2_with fail
                  have t_8 := tc_7
                  have x_8 := xc_7
                  have y_8 := yc_7
                  have inv_8 := invc_7
                  refine (hY2 _).mono ?_; rintro e w_8 ⟨rfl, hb_8⟩
                  have tc_8 := t_8.below hb_8 t_8.lt
                  have xc_8 := x_8.below hb_8 x_8.lt
                  have yc_8 := y_8.below hb_8 y_8.lt
                  have invc_8 := inv_8.call hb_8
                  clear t_8 x_8 y_8 inv_8 hb_8
                  have x0 := xc_8.cell 0; have x1 := xc_8.cell 1; simp at x0 x1
                  have y0 := yc_8.cell 0; have y1 := yc_8.cell 1; simp at y0 y1
                  go_wp2_with (first | refine wpList_row_g rfl 40 _ rfl _ rfl _ _ _ _ tc_8 Tryd.underlying40 rfl (by kernel_rfl) ?_)
                  have t_9 := tc_8
                  have inv_9 := invc_8
                  refine (hFr _ inv_9).mono ?_; rintro e w_9 ⟨rfl, hb_9⟩
                  have tc_9 := t_9.below hb_9 t_9.lt
                  have invc_9 := inv_9.call hb_9
                  clear t_9 inv_9 hb_9
                  go_wp2_with fail
                  have t_10 := tc_9
                  have inv_10 := invc_9
                  refine (hY3 _).mono ?_; rintro e w_10 ⟨rfl, hb_10⟩
                  have tc_10 := t_10.below hb_10 t_10.lt
                  have invc_10 := inv_10.call hb_10
                  clear t_10 inv_10 hb_10
                  go_wp2_with (first | refine wpList_row_g rfl 40 _ rfl _ rfl _ _ _ _ tc_10 Tryd.underlying40 rfl (by kernel_rfl) ?_)
                  have t_11 := tc_10
                  have inv_11 := invc_10
                  refine (hPk _ inv_11).mono ?_; rintro e w_11 ⟨rfl, hb_11⟩
                  have tc_11 := t_11.below hb_11 t_11.lt
                  have invc_11 := inv_11.call hb_11
                  clear t_11 inv_11 hb_11
                  have r_12 := (Wd.Blk.new w_11 26 r.A)
                  have inv_12 := (invc_11.alloc (.cells r.A 26))
                  go_wp2_with (first | refine wpList_store_new rfl 26 _ _ rfl rfl w_11.heap.size r.A rfl rfl _ z19 w_11 rfl rfl rfl (by kernel_rfl) (by kernel_rfl) ?_ | refine wpList_row_g rfl 26 _ rfl _ rfl _ _ _ _ r_12 Tryd.underlying26 rfl (by kernel_rfl) ?_)
                  have r_13 := r_12
                  have inv_13 := inv_12
                  refine (hA0 _ inv_13).mono ?_; rintro e w_13 ⟨rfl, hb_13⟩
                  have rc_13 := r_13.below hb_13 r_13.lt
                  have invc_13 := inv_13.call hb_13
                  clear r_13 inv_13 hb_13
                  have z_14 := (Wd.Blk.new w_13 43 (stA0 q k3))
                  have inv_14 := (invc_13.alloc (.cells (stA0 q k3) 43))
                  have z0 := z_14.cell 0; simp at z0
                  go_upto_region 24 with (first | refine wpList_store_new rfl 43 _ _ rfl rfl w_13.heap.size (stA0 q k3) rfl rfl _ (stA0 0 false) w_13 rfl rfl rfl (by kernel_rfl) (by kernel_rfl) ?_)
                  go_wp2_with fail
                  go_ret
                  exact ⟨rfl, inv_14.2⟩
                · rw [hh] at hFr
                  generalize r.off Y3 (frC F L l (s + o)) = q at *
                  generalize r.sum Y3 (frC F L l (s + o)) = k3 at *
                  generalize frC F L l (s + o) = p at *
                  go_enter Tryd.func9, Tryd.ntmps9
                  go_wp2_with fail
                  have t_1 := (Wd.Blk.new w 40 (tbA F L A n m))
                  have inv_1 := (i0.alloc (.cells (tbA F L A n m) 40))
                  refine (begins12_any _ inv_1.1).mono ?_; rintro e w_1 ⟨rfl, hb_1⟩
                  have tc_1 := t_1.below hb_1 t_1.lt
                  have invc_1 := inv_1.call hb_1
                  clear t_1 inv_1 hb_1
                  go_wp2_with (first | refine wpList_row_g rfl 40 _ rfl _ rfl _ _ _ _ tc_1 Tryd.underlying40 rfl (by kernel_rfl) ?_)
                  have t_2 := tc_1
                  have inv_2 := invc_1
                  refine (hsm _).mono ?_; rintro e w_2 ⟨rfl, hb_2⟩
                  have tc_2 := t_2.below hb_2 t_2.lt
                  have invc_2 := inv_2.call hb_2
                  clear t_2 inv_2 hb_2
                  go_wp2_with (first | refine wpList_row_g rfl 40 _ rfl _ rfl _ _ _ _ tc_2 Tryd.underlying40 rfl (by kernel_rfl) ?_)
                  have t_3 := tc_2
                  have inv_3 := invc_2
                  refine (hTo _ inv_3).mono ?_; rintro e w_3 ⟨rfl, hb_3⟩
                  have tc_3 := t_3.below hb_3 t_3.lt
                  have invc_3 := inv_3.call hb_3
                  clear t_3 inv_3 hb_3
                  have t_4 := (tc_3.alloc (.cells (stA0 o k) 43))
                  have x_4 := (Wd.Blk.new w_3 43 (stA0 o k))
                  have inv_4 := (invc_3.alloc (.cells (stA0 o k) 43))
                  go_wp2_with (first | refine wpList_store_new rfl 43 _ _ rfl rfl w_3.heap.size (stA0 o k) rfl rfl _ (stA0 0 false) w_3 rfl rfl rfl (by kernel_rfl) (by kernel_rfl) ?_ | refine wpList_row_g rfl 40 _ rfl _ rfl _ _ _ _ t_4 Tryd.underlying40 rfl (by kernel_rfl) ?_)
                  have t_5 := t_4
                  have x_5 := x_4
                  have inv_5 := inv_4
                  refine (hTu _ inv_5).mono ?_; rintro e w_5 ⟨rfl, hb_5⟩
                  have tc_5 := t_5.below hb_5 t_5.lt
                  have xc_5 := x_5.below hb_5 x_5.lt
                  have invc_5 := inv_5.call hb_5
                  clear t_5 x_5 inv_5 hb_5
                  have t_6 := (tc_5.alloc (.cells (stA0 o2 k2) 43))
                  have x_6 := (xc_5.alloc (.cells (stA0 o2 k2) 43))
                  have y_6 := (Wd.Blk.new w_5 43 (stA0 o2 k2))
                  have inv_6 := (invc_5.alloc (.cells (stA0 o2 k2) 43))
                  go_wp2_with (first | refine wpList_store_new rfl 43 _ _ rfl rfl w_5.heap.size (stA0 o2 k2) rfl rfl _ (stA0 0 false) w_5 rfl rfl rfl (by kernel_rfl) (by kernel_rfl) ?_)
                  have t_7 := t_6
                  have x_7 := x_6
                  have y_7 := y_6
                  have inv_7 := inv_6
                  refine (hY1 _).mono ?_; rintro e w_7 ⟨rfl, hb_7⟩
                  have tc_7 := t_7.below hb_7 t_7.lt
                  have xc_7 := x_7.below hb_7 x_7.lt
                  have yc_7 := y_7.below hb_7 y_7.lt
                  have invc_7 := inv_7.call hb_7
                  clear t_7 x_7 y_7 inv_7 hb_7
                  go_wp2_with fail
                  have t_8 := tc_7
                  have x_8 := xc_7
                  have y_8 := yc_7
                  have inv_8 := invc_7
                  refine (hY2 _).mono ?_; rintro e w_8 ⟨rfl, hb_8⟩
                  have tc_8 := t_8.below hb_8 t_8.lt
                  have xc_8 := x_8.below hb_8 x_8.lt
                  have yc_8 := y_8.below hb_8 y_8.lt
                  have invc_8 := inv_8.call hb_8
                  clear t_8 x_8 y_8 inv_8 hb_8
                  have x0 := xc_8.cell 0; have x1 := xc_8.cell 1; simp at x0 x1
                  have y0 := yc_8.cell 0; have y1 := yc_8.cell 1; simp at y0 y1
                  go_wp2_with (first | refine wpList_row_g rfl 40 _ rfl _ rfl _ _ _ _ tc_8 Tryd.underlying40 rfl (by kernel_rfl) ?_)
                  have t_9 := tc_8
                  have inv_9 := invc_8
                  refine (hFr _ inv_9).mono ?_; rintro e w_9 ⟨rfl, hb_9⟩
                  have tc_9 := t_9.below hb_9 t_9.lt
                  have invc_9 := inv_9.call hb_9
                  clear t_9 inv_9 hb_9
                  go_wp2_with fail
                  have t_10 := tc_9
                  have inv_10 := invc_9
                  refine (hY3 _).mono ?_; rintro e w_10 ⟨rfl, hb_10⟩
                  have tc_10 := t_10.below hb_10 t_10.lt
                  have invc_10 := inv_10.call hb_10
                  clear t_10 inv_10 hb_10
                  go_wp2_with (first | refine wpList_row_g rfl 40 _ rfl _ rfl _ _ _ _ tc_10 Tryd.underlying40 rfl (by kernel_rfl) ?_)
                  have t_11 := tc_10
                  have inv_11 := invc_10
                  refine (hPk _ inv_11).mono ?_; rintro e w_11 ⟨rfl, hb_11⟩
                  have tc_11 := t_11.below hb_11 t_11.lt
                  have invc_11 := inv_11.call hb_11
                  clear t_11 inv_11 hb_11
                  have r_12 := (Wd.Blk.new w_11 26 r.A)
                  have inv_12 := (invc_11.alloc (.cells r.A 26))
                  go_wp2_with (first | refine wpList_store_new rfl 26 _ _ rfl rfl w_11.heap.size r.A rfl rfl _ z19 w_11 rfl rfl rfl (by kernel_rfl) (by kernel_rfl) ?_ | refine wpList_row_g rfl 26 _ rfl _ rfl _ _ _ _ r_12 Tryd.underlying26 rfl (by kernel_rfl) ?_)
                  have r_13 := r_12
                  have inv_13 := inv_12
                  refine (hA0 _ inv_13).mono ?_; rintro e w_13 ⟨rfl, hb_13⟩
                  have rc_13 := r_13.below hb_13 r_13.lt
                  have invc_13 := inv_13.call hb_13
                  clear r_13 inv_13 hb_13
                  have z_14 := (Wd.Blk.new w_13 43 (stA0 q k3))
                  have inv_14 := (invc_13.alloc (.cells (stA0 q k3) 43))
                  have z0 := z_14.cell 0; simp at z0
                  go_upto_region 24 with (first | refine wpList_store_new rfl 43 _ _ rfl rfl w_13.heap.size (stA0 q k3) rfl rfl _ (stA0 0 false) w_13 rfl rfl rfl (by kernel_rfl) (by kernel_rfl) ?_)
                  go_wp2_with fail
                  go_ret
                  exact ⟨rfl, inv_14.2⟩
          · have h1c : atE F L l c = 1 := by
              rcases atE_cases F L l c with h | h | h
              · exact absurd h he3
              · exact h.1
              · rw [hv1.1] at h; cases h.2
            rw [← hcc] at hFr
            obtain ⟨z1, z2, z3, z4⟩ := tr_no he3
            have hH : frH F L l c = 0 := by unfold frH; rw [if_neg he3]
            have hC : frC F L l c = 0 := by unfold frC; rw [z1, z2, z3, z4]; rfl
            rw [hH, hC, h1c] at hFr; clear z1 z2 z3 z4 hH hC he3 h1c hY3
            subst hcc
            clear he he2 hv1 hv2 hc hc2
            generalize yrV s = Y1 at *
            generalize yrV (s + by_) = Y2 at *
            generalize tOff F L l s = o at *
            generalize tSum F L l s = k at *
            generalize tOff F L l (s + by_) = o2 at *
            generalize tSum F L l (s + by_) = k2 at *
            obtain ⟨_, o1, o2'⟩ := hbd1
            obtain ⟨_, o3, o4⟩ := hbd2
            by_cases hyy : Y1 = Y2 ∧ k = k2
            · obtain ⟨rfl, rfl⟩ := hyy
              obtain rfl := hsm2 rfl rfl
              clear hsm2
              have hd : (s + by_ + o - (s + o) != s + by_ - s) = false := by rw [bne_eq_false_iff_eq]; omega
              go_enter Tryd.func9, Tryd.ntmps9
              go_wp2_with fail
              have t_1 := (Wd.Blk.new w 40 (tbA F L A n m))
              have inv_1 := (i0.alloc (.cells (tbA F L A n m) 40))
              refine (begins12_any _ inv_1.1).mono ?_; rintro e w_1 ⟨rfl, hb_1⟩
              have tc_1 := t_1.below hb_1 t_1.lt
              have invc_1 := inv_1.call hb_1
              clear t_1 inv_1 hb_1
              go_wp2_with (first | refine wpList_row_g rfl 40 _ rfl _ rfl _ _ _ _ tc_1 Tryd.underlying40 rfl (by kernel_rfl) ?_)
              have t_2 := tc_1
              have inv_2 := invc_1
              refine (hsm _).mono ?_; rintro e w_2 ⟨rfl, hb_2⟩
              have tc_2 := t_2.below hb_2 t_2.lt
              have invc_2 := inv_2.call hb_2
              clear t_2 inv_2 hb_2
              go_wp2_with (first | refine wpList_row_g rfl 40 _ rfl _ rfl _ _ _ _ tc_2 Tryd.underlying40 rfl (by kernel_rfl) ?_)
              have t_3 := tc_2
              have inv_3 := invc_2
              refine (hTo _ inv_3).mono ?_; rintro e w_3 ⟨rfl, hb_3⟩
              have tc_3 := t_3.below hb_3 t_3.lt
              have invc_3 := inv_3.call hb_3
              clear t_3 inv_3 hb_3
              have t_4 := (tc_3.alloc (.cells (stA0 o k) 43))
              have x_4 := (Wd.Blk.new w_3 43 (stA0 o k))
              have inv_4 := (invc_3.alloc (.cells (stA0 o k) 43))
              go_wp2_with (first | refine wpList_store_new rfl 43 _ _ rfl rfl w_3.heap.size (stA0 o k) rfl rfl _ (stA0 0 false) w_3 rfl rfl rfl (by kernel_rfl) (by kernel_rfl) ?_ | refine wpList_row_g rfl 40 _ rfl _ rfl _ _ _ _ t_4 Tryd.underlying40 rfl (by kernel_rfl) ?_)
              have t_5 := t_4
              have x_5 := x_4
              have inv_5 := inv_4
              refine (hTu _ inv_5).mono ?_; rintro e w_5 ⟨rfl, hb_5⟩
              have tc_5 := t_5.below hb_5 t_5.lt
              have xc_5 := x_5.below hb_5 x_5.lt
              have invc_5 := inv_5.call hb_5
              clear t_5 x_5 inv_5 hb_5
              have t_6 := (tc_5.alloc (.cells (stA0 o k) 43))
              have x_6 := (xc_5.alloc (.cells (stA0 o k) 43))
              have y_6 := (Wd.Blk.new w_5 43 (stA0 o k))
              have inv_6 := (invc_5.alloc (.cells (stA0 o k) 43))
              go_wp2_with (first | refine wpList_store_new rfl 43 _ _ rfl rfl w_5.heap.size (stA0 o k) rfl rfl _ (stA0 0 false) w_5 rfl rfl rfl (by kernel_rfl) (by kernel_rfl) ?_)
              have t_7 := t_6
              have x_7 := x_6
              have y_7 := y_6
              have inv_7 := inv_6
              refine (hY1 _).mono ?_; rintro e w_7 ⟨rfl, hb_7⟩
              have tc_7 := t_7.below hb_7 t_7.lt
              have xc_7 := x_7.below hb_7 x_7.lt
              have yc_7 := y_7.below hb_7 y_7.lt
              have invc_7 := inv_7.call hb_7
              clear t_7 x_7 y_7 inv_7 hb_7
              go_wp2_with fail
              have t_8 := tc_7
              have x_8 := xc_7
              have y_8 := yc_7
              have inv_8 := invc_7
              refine (hY2 _).mono ?_; rintro e w_8 ⟨rfl, hb_8⟩
              have tc_8 := t_8.below hb_8 t_8.lt
              have xc_8 := x_8.below hb_8 x_8.lt
              have yc_8 := y_8.below hb_8 y_8.lt
              have invc_8 := inv_8.call hb_8
              clear t_8 x_8 y_8 inv_8 hb_8
              have x0 := xc_8.cell 0; have x1 := xc_8.cell 1; simp at x0 x1
              have y0 := yc_8.cell 0; have y1 := yc_8.cell 1; simp at y0 y1
              go_wp2_with (first | refine wpList_row_g rfl 40 _ rfl _ rfl _ _ _ _ tc_8 Tryd.underlying40 rfl (by kernel_rfl) ?_)
              have t_9 := tc_8
              have inv_9 := invc_8
              refine (hFr _ inv_9).mono ?_; rintro e w_9 ⟨rfl, hb_9⟩
              have tc_9 := t_9.below hb_9 t_9.lt
              have invc_9 := inv_9.call hb_9
              clear t_9 inv_9 hb_9
              go_wp2_with fail
              go_ret
              exact ⟨rfl, invc_9.2⟩
            · clear hsm2
              have hyy' : (Y1 == Y2) = false ∨ ((Y1 == Y2) = true ∧ (k == k2) = false) := by
                by_cases h : Y1 = Y2
                · right; refine ⟨by simp [h], ?_⟩
                  rw [beq_eq_false_iff_ne]; intro h2; exact hyy ⟨h, h2⟩
                · left; simp [h]
              clear hyy
              rcases hyy' with hya | ⟨hya, hyb⟩
              · skip
                go_enter Tryd.func9, Tryd.ntmps9
                go_wp2_with fail
                have t_1 := (Wd.Blk.new w 40 (tbA F L A n m))
                have inv_1 := (i0.alloc (.cells (tbA F L A n m) 40))
                refine (begins12_any _ inv_1.1).mono ?_; rintro e w_1 ⟨rfl, hb_1⟩
                have tc_1 := t_1.below hb_1 t_1.lt
                have invc_1 := inv_1.call hb_1
                clear t_1 inv_1 hb_1
                go_wp2_with (first | refine wpList_row_g rfl 40 _ rfl _ rfl _ _ _ _ tc_1 Tryd.underlying40 rfl (by kernel_rfl) ?_)
                have t_2 := tc_1
                have inv_2 := invc_1
                refine (hsm _).mono ?_; rintro e w_2 ⟨rfl, hb_2⟩
                have tc_2 := t_2.below hb_2 t_2.lt
                have invc_2 := inv_2.call hb_2
                clear t_2 inv_2 hb_2
                go_wp2_with (first | refine wpList_row_g rfl 40 _ rfl _ rfl _ _ _ _ tc_2 Tryd.underlying40 rfl (by kernel_rfl) ?_)
                have t_3 := tc_2
                have inv_3 := invc_2
                refine (hTo _ inv_3).mono ?_; rintro e w_3 ⟨rfl, hb_3⟩
                have tc_3 := t_3.below hb_3 t_3.lt
                have invc_3 := inv_3.call hb_3
                clear t_3 inv_3 hb_3
                have t_4 := (tc_3.alloc (.cells (stA0 o k) 43))
                have x_4 := (Wd.Blk.new w_3 43 (stA0 o k))
                have inv_4 := (invc_3.alloc (.cells (stA0 o k) 43))
                go_wp2_with (first | refine wpList_store_new rfl 43 _ _ rfl rfl w_3.heap.size (stA0 o k) rfl rfl _ (stA0 0 false) w_3 rfl rfl rfl (by kernel_rfl) (by kernel_rfl) ?_ | refine wpList_row_g rfl 40 _ rfl _ rfl _ _ _ _ t_4 Tryd.underlying40 rfl (by kernel_rfl) ?_)
                have t_5 := t_4
                have x_5 := x_4
                have inv_5 := inv_4
                refine (hTu _ inv_5).mono ?_; rintro e w_5 ⟨rfl, hb_5⟩
                have tc_5 := t_5.below hb_5 t_5.lt
                have xc_5 := x_5.below hb_5 x_5.lt
                have invc_5 := inv_5.call hb_5
                clear t_5 x_5 inv_5 hb_5
                have t_6 := (tc_5.alloc (.cells (stA0 o2 k2) 43))
                have x_6 := (xc_5.alloc (.cells (stA0 o2 k2) 43))
                have y_6 := (Wd.Blk.new w_5 43 (stA0 o2 k2))
                have inv_6 := (invc_5.alloc (.cells (stA0 o2 k2) 43))
                go_wp2_with (first | refine wpList_store_new rfl 43 _ _ rfl rfl w_5.heap.size (stA0 o2 k2) rfl rfl _ (stA0 0 false) w_5 rfl rfl rfl (by kernel_rfl) (by kernel_rfl) ?_)
                have t_7 := t_6
                have x_7 := x_6
                have y_7 := y_6
                have inv_7 := inv_6
                refine (hY1 _).mono ?_; rintro e w_7 ⟨rfl, hb_7⟩
                have tc_7 := t_7.below hb_7 t_7.lt
                have xc_7 := x_7.below hb_7 x_7.lt
                have yc_7 := y_7.below hb_7 y_7.lt
                have invc_7 := inv_7.call hb_7
                clear t_7 x_7 y_7 inv_7 hb_7
                go_wp2_with fail
                have t_8 := tc_7
                have x_8 := xc_7
                have y_8 := yc_7
                have inv_8 := invc_7
                refine (hY2 _).mono ?_; rintro e w_8 ⟨rfl, hb_8⟩
                have tc_8 := t_8.below hb_8 t_8.lt
                have xc_8 := x_8.below hb_8 x_8.lt
                have yc_8 := y_8.below hb_8 y_8.lt
                have invc_8 := inv_8.call hb_8
                clear t_8 x_8 y_8 inv_8 hb_8
                have x0 := xc_8.cell 0; have x1 := xc_8.cell 1; simp at x0 x1
                have y0 := yc_8.cell 0; have y1 := yc_8.cell 1; simp at y0 y1
                go_wp2_with (first | refine wpList_row_g rfl 40 _ rfl _ rfl _ _ _ _ tc_8 Tryd.underlying40 rfl (by kernel_rfl) ?_)
                have t_9 := tc_8
                have inv_9 := invc_8
                refine (hFr _ inv_9).mono ?_; rintro e w_9 ⟨rfl, hb_9⟩
                have tc_9 := t_9.below hb_9 t_9.lt
                have invc_9 := inv_9.call hb_9
                clear t_9 inv_9 hb_9
                go_wp2_with fail
                go_ret
                exact ⟨rfl, invc_9.2⟩
              · skip
                go_enter Tryd.func9, Tryd.ntmps9
                go_wp2_with fail
                have t_1 := (Wd.Blk.new w 40 (tbA F L A n m))
                have inv_1 := (i0.alloc (.cells (tbA F L A n m) 40))
                refine (begins12_any _ inv_1.1).mono ?_; rintro e w_1 ⟨rfl, hb_1⟩
                have tc_1 := t_1.below hb_1 t_1.lt
                have invc_1 := inv_1.call hb_1
                clear t_1 inv_1 hb_1
                go_wp2_with (first | refine wpList_row_g rfl 40 _ rfl _ rfl _ _ _ _ tc_1 Tryd.underlying40 rfl (by kernel_rfl) ?_)
                have t_2 := tc_1
                have inv_2 := invc_1
                refine (hsm _).mono ?_; rintro e w_2 ⟨rfl, hb_2⟩
                have tc_2 := t_2.below hb_2 t_2.lt
                have invc_2 := inv_2.call hb_2
                clear t_2 inv_2 hb_2
                go_wp2_with (first | refine wpList_row_g rfl 40 _ rfl _ rfl _ _ _ _ tc_2 Tryd.underlying40 rfl (by kernel_rfl) ?_)
                have t_3 := tc_2
                have inv_3 := invc_2
                refine (hTo _ inv_3).mono ?_; rintro e w_3 ⟨rfl, hb_3⟩
                have tc_3 := t_3.below hb_3 t_3.lt
                have invc_3 := inv_3.call hb_3
                clear t_3 inv_3 hb_3
                have t_4 := (tc_3.alloc (.cells (stA0 o k) 43))
                have x_4 := (Wd.Blk.new w_3 43 (stA0 o k))
                have inv_4 := (invc_3.alloc (.cells (stA0 o k) 43))
                go_wp2_with (first | refine wpList_store_new rfl 43 _ _ rfl rfl w_3.heap.size (stA0 o k) rfl rfl _ (stA0 0 false) w_3 rfl rfl rfl (by kernel_rfl) (by kernel_rfl) ?_ | refine wpList_row_g rfl 40 _ rfl _ rfl _ _ _ _ t_4 Tryd.underlying40 rfl (by kernel_rfl) ?_)
                have t_5 := t_4
                have x_5 := x_4
                have inv_5 := inv_4
                refine (hTu _ inv_5).mono ?_; rintro e w_5 ⟨rfl, hb_5⟩
                have tc_5 := t_5.below hb_5 t_5.lt
                have xc_5 := x_5.below hb_5 x_5.lt
                have invc_5 := inv_5.call hb_5
                clear t_5 x_5 inv_5 hb_5
                have t_6 := (tc_5.alloc (.cells (stA0 o2 k2) 43))
                have x_6 := (xc_5.alloc (.cells (stA0 o2 k2) 43))
                have y_6 := (Wd.Blk.new w_5 43 (stA0 o2 k2))
                have inv_6 := (invc_5.alloc (.cells (stA0 o2 k2) 43))
                go_wp2_with (first | refine wpList_store_new rfl 43 _ _ rfl rfl w_5.heap.size (stA0 o2 k2) rfl rfl _ (stA0 0 false) w_5 rfl rfl rfl (by kernel_rfl) (by kernel_rfl) ?_)
                have t_7 := t_6
                have x_7 := x_6
                have y_7 := y_6
                have inv_7 := inv_6
                refine (hY1 _).mono ?_; rintro e w_7 ⟨rfl, hb_7⟩
                have tc_7 := t_7.below hb_7 t_7.lt
                have xc_7 := x_7.below hb_7 x_7.lt
                have yc_7 := y_7.below hb_7 y_7.lt
                have invc_7 := inv_7.call hb_7
                clear t_7 x_7 y_7 inv_7 hb_7
                go_wp2_with fail
                have t_8 := tc_7
                have x_8 := xc_7
                have y_8 := yc_7
                have inv_8 := invc_7
                refine (hY2 _).mono ?_; rintro e w_8 ⟨rfl, hb_8⟩
                have tc_8 := t_8.below hb_8 t_8.lt
                have xc_8 := x_8.below hb_8 x_8.lt
                have yc_8 := y_8.below hb_8 y_8.lt
                have invc_8 := inv_8.call hb_8
                clear t_8 x_8 y_8 inv_8 hb_8
                have x0 := xc_8.cell 0; have x1 := xc_8.cell 1; simp at x0 x1
                have y0 := yc_8.cell 0; have y1 := yc_8.cell 1; simp at y0 y1
                go_wp2_with (first | refine wpList_row_g rfl 40 _ rfl _ rfl _ _ _ _ tc_8 Tryd.underlying40 rfl (by kernel_rfl) ?_)
                have t_9 := tc_8
                have inv_9 := invc_8
                refine (hFr _ inv_9).mono ?_; rintro e w_9 ⟨rfl, hb_9⟩
                have tc_9 := t_9.below hb_9 t_9.lt
                have invc_9 := inv_9.call hb_9
                clear t_9 inv_9 hb_9
                go_wp2_with fail
                go_ret
                exact ⟨rfl, invc_9.2⟩
        · have f1 : toC F L l (s + by_) = 0 := by unfold toC; rw [if_neg he2]
          have f2 : tOff F L l (s + by_) = 0 := by unfold tOff; rw [if_neg he2]
          have f3 : tSum F L l (s + by_) = false := by unfold tSum; rw [if_neg he2]
          have heb : (atE F L l (s + by_) != 0) = true := by simp [he2]
          have heb2 : (atE F L l (s + by_) == 0) = false := by simp [he2]
          rw [f1, f2, f3] at hTu; rw [hc, he] at hTo; clear f1 f2 f3 he2 hv1 hc he
          generalize atE F L l (s + by_) = E at *
          generalize tOff F L l s = o at *
          generalize tSum F L l s = k at *
          generalize yrV s = Y1 at *
          generalize yrE s = E1 at *
          generalize yrV (s + by_) = Y2 at *
          generalize yrE (s + by_) = E2 at *
          go_enter Tryd.func9, Tryd.ntmps9
          go_wp2_with fail
          have t_1 := (Wd.Blk.new w 40 (tbA F L A n m))
          have inv_1 := (i0.alloc (.cells (tbA F L A n m) 40))
          refine (begins12_any _ inv_1.1).mono ?_; rintro e w_1 ⟨rfl, hb_1⟩
          have tc_1 := t_1.below hb_1 t_1.lt
          have invc_1 := inv_1.call hb_1
          clear t_1 inv_1 hb_1
          go_wp2_with (first | refine wpList_row_g rfl 40 _ rfl _ rfl _ _ _ _ tc_1 Tryd.underlying40 rfl (by kernel_rfl) ?_)
          have t_2 := tc_1
          have inv_2 := invc_1
          refine (hsm _).mono ?_; rintro e w_2 ⟨rfl, hb_2⟩
          have tc_2 := t_2.below hb_2 t_2.lt
          have invc_2 := inv_2.call hb_2
          clear t_2 inv_2 hb_2
          go_wp2_with (first | refine wpList_row_g rfl 40 _ rfl _ rfl _ _ _ _ tc_2 Tryd.underlying40 rfl (by kernel_rfl) ?_)
          have t_3 := tc_2
          have inv_3 := invc_2
          refine (hTo _ inv_3).mono ?_; rintro e w_3 ⟨rfl, hb_3⟩
          have tc_3 := t_3.below hb_3 t_3.lt
          have invc_3 := inv_3.call hb_3
          clear t_3 inv_3 hb_3
          have t_4 := (tc_3.alloc (.cells (stA0 o k) 43))
          have x_4 := (Wd.Blk.new w_3 43 (stA0 o k))
          have inv_4 := (invc_3.alloc (.cells (stA0 o k) 43))
          go_wp2_with (first | refine wpList_store_new rfl 43 _ _ rfl rfl w_3.heap.size (stA0 o k) rfl rfl _ (stA0 0 false) w_3 rfl rfl rfl (by kernel_rfl) (by kernel_rfl) ?_ | refine wpList_row_g rfl 40 _ rfl _ rfl _ _ _ _ t_4 Tryd.underlying40 rfl (by kernel_rfl) ?_)
          have t_5 := t_4
          have x_5 := x_4
          have inv_5 := inv_4
          refine (hTu _ inv_5).mono ?_; rintro e w_5 ⟨rfl, hb_5⟩
          have tc_5 := t_5.below hb_5 t_5.lt
          have xc_5 := x_5.below hb_5 x_5.lt
          have invc_5 := inv_5.call hb_5
          clear t_5 x_5 inv_5 hb_5
          have t_6 := (tc_5.alloc (.cells (stA0 0 false) 43))
          have x_6 := (xc_5.alloc (.cells (stA0 0 false) 43))
          have y_6 := (Wd.Blk.new w_5 43 (stA0 0 false))
          have inv_6 := (invc_5.alloc (.cells (stA0 0 false) 43))
          go_wp2_with (first | refine wpList_store_new rfl 43 _ _ rfl rfl w_5.heap.size (stA0 0 false) rfl rfl _ (stA0 0 false) w_5 rfl rfl rfl (by kernel_rfl) (by kernel_rfl) ?_)
          have t_7 := t_6
          have x_7 := x_6
          have y_7 := y_6
          have inv_7 := inv_6
          refine (hY1 _).mono ?_; rintro e w_7 ⟨rfl, hb_7⟩
          have tc_7 := t_7.below hb_7 t_7.lt
          have xc_7 := x_7.below hb_7 x_7.lt
          have yc_7 := y_7.below hb_7 y_7.lt
          have invc_7 := inv_7.call hb_7
          clear t_7 x_7 y_7 inv_7 hb_7
          go_wp2_with fail
          have t_8 := tc_7
          have x_8 := xc_7
          have y_8 := yc_7
          have inv_8 := invc_7
          refine (hY2 _).mono ?_; rintro e w_8 ⟨rfl, hb_8⟩
          have tc_8 := t_8.below hb_8 t_8.lt
          have xc_8 := x_8.below hb_8 x_8.lt
          have yc_8 := y_8.below hb_8 y_8.lt
          have invc_8 := inv_8.call hb_8
          clear t_8 x_8 y_8 inv_8 hb_8
          have x0 := xc_8.cell 0; have x1 := xc_8.cell 1; simp at x0 x1
          have y0 := yc_8.cell 0; have y1 := yc_8.cell 1; simp at y0 y1
          go_wp2_with fail
          go_ret
          exact ⟨rfl, invc_8.2⟩
      · have f1 : toC F L l s = 0 := by unfold toC; rw [if_neg he]
        have f2 : tOff F L l s = 0 := by unfold tOff; rw [if_neg he]
        have f3 : tSum F L l s = false := by unfold tSum; rw [if_neg he]
        have heb : (atE F L l s != 0) = true := by simp [he]
        have heb2 : (atE F L l s == 0) = false := by simp [he]
        have hz : atE F L l (s + by_) = 0 ∨ (toC F L l (s + by_) = 0 ∧ (atE F L l (s + by_) == 0) = false) := by
          by_cases he2 : atE F L l (s + by_) = 0
          · exact Or.inl he2
          · exact Or.inr ⟨by unfold toC; rw [if_neg he2], by simp [he2]⟩
        rw [f1, f2, f3] at hTo; clear f1 f2 f3 he
        generalize atE F L l s = E at *
        generalize tOff F L l (s + by_) = o at *
        generalize tSum F L l (s + by_) = k at *
        generalize yrV s = Y1 at *
        generalize yrE s = E1 at *
        generalize yrV (s + by_) = Y2 at *
        generalize yrE (s + by_) = E2 at *
        generalize toC F L l (s + by_) = d at *
        rcases hz with hz | ⟨rfl, hz⟩
        · rw [hz] at hTu; clear hz
          go_enter Tryd.func9, Tryd.ntmps9
          go_wp2_with fail
          have t_1 := (Wd.Blk.new w 40 (tbA F L A n m))
          have inv_1 := (i0.alloc (.cells (tbA F L A n m) 40))
          refine (begins12_any _ inv_1.1).mono ?_; rintro e w_1 ⟨rfl, hb_1⟩
          have tc_1 := t_1.below hb_1 t_1.lt
          have invc_1 := inv_1.call hb_1
          clear t_1 inv_1 hb_1
          go_wp2_with (first | refine wpList_row_g rfl 40 _ rfl _ rfl _ _ _ _ tc_1 Tryd.underlying40 rfl (by kernel_rfl) ?_)
          have t_2 := tc_1
          have inv_2 := invc_1
          refine (hsm _).mono ?_; rintro e w_2 ⟨rfl, hb_2⟩
          have tc_2 := t_2.below hb_2 t_2.lt
          have invc_2 := inv_2.call hb_2
          clear t_2 inv_2 hb_2
          go_wp2_with (first | refine wpList_row_g rfl 40 _ rfl _ rfl _ _ _ _ tc_2 Tryd.underlying40 rfl (by kernel_rfl) ?_)
          have t_3 := tc_2
          have inv_3 := invc_2
          refine (hTo _ inv_3).mono ?_; rintro e w_3 ⟨rfl, hb_3⟩
          have tc_3 := t_3.below hb_3 t_3.lt
          have invc_3 := inv_3.call hb_3
          clear t_3 inv_3 hb_3
          have t_4 := (tc_3.alloc (.cells (stA0 0 false) 43))
          have x_4 := (Wd.Blk.new w_3 43 (stA0 0 false))
          have inv_4 := (invc_3.alloc (.cells (stA0 0 false) 43))
          go_wp2_with (first | refine wpList_store_new rfl 43 _ _ rfl rfl w_3.heap.size (stA0 0 false) rfl rfl _ (stA0 0 false) w_3 rfl rfl rfl (by kernel_rfl) (by kernel_rfl) ?_ | refine wpList_row_g rfl 40 _ rfl _ rfl _ _ _ _ t_4 Tryd.underlying40 rfl (by kernel_rfl) ?_)
          have t_5 := t_4
          have x_5 := x_4
          have inv_5 := inv_4
          refine (hTu _ inv_5).mono ?_; rintro e w_5 ⟨rfl, hb_5⟩
          have tc_5 := t_5.below hb_5 t_5.lt
          have xc_5 := x_5.below hb_5 x_5.lt
          have invc_5 := inv_5.call hb_5
          clear t_5 x_5 inv_5 hb_5
          have t_6 := (tc_5.alloc (.cells (stA0 o k) 43))
          have x_6 := (xc_5.alloc (.cells (stA0 o k) 43))
          have y_6 := (Wd.Blk.new w_5 43 (stA0 o k))
          have inv_6 := (invc_5.alloc (.cells (stA0 o k) 43))
          go_wp2_with (first | refine wpList_store_new rfl 43 _ _ rfl rfl w_5.heap.size (stA0 o k) rfl rfl _ (stA0 0 false) w_5 rfl rfl rfl (by kernel_rfl) (by kernel_rfl) ?_)
          have t_7 := t_6
          have x_7 := x_6
          have y_7 := y_6
          have inv_7 := inv_6
          refine (hY1 _).mono ?_; rintro e w_7 ⟨rfl, hb_7⟩
          have tc_7 := t_7.below hb_7 t_7.lt
          have xc_7 := x_7.below hb_7 x_7.lt
          have yc_7 := y_7.below hb_7 y_7.lt
          have invc_7 := inv_7.call hb_7
          clear t_7 x_7 y_7 inv_7 hb_7
          go_wp2_with fail
          have t_8 := tc_7
          have x_8 := xc_7
          have y_8 := yc_7
          have inv_8 := invc_7
          refine (hY2 _).mono ?_; rintro e w_8 ⟨rfl, hb_8⟩
          have tc_8 := t_8.below hb_8 t_8.lt
          have xc_8 := x_8.below hb_8 x_8.lt
          have yc_8 := y_8.below hb_8 y_8.lt
          have invc_8 := inv_8.call hb_8
          clear t_8 x_8 y_8 inv_8 hb_8
          have x0 := xc_8.cell 0; have x1 := xc_8.cell 1; simp at x0 x1
          have y0 := yc_8.cell 0; have y1 := yc_8.cell 1; simp at y0 y1
          go_wp2_with fail
          go_ret
          exact ⟨rfl, invc_8.2⟩
        · generalize atE F L l (s + by_) = G at *
          go_enter Tryd.func9, Tryd.ntmps9
          go_wp2_with fail
          have t_1 := (Wd.Blk.new w 40 (tbA F L A n m))
          have inv_1 := (i0.alloc (.cells (tbA F L A n m) 40))
          refine (begins12_any _ inv_1.1).mono ?_; rintro e w_1 ⟨rfl, hb_1⟩
          have tc_1 := t_1.below hb_1 t_1.lt
          have invc_1 := inv_1.call hb_1
          clear t_1 inv_1 hb_1
          go_wp2_with (first | refine wpList_row_g rfl 40 _ rfl _ rfl _ _ _ _ tc_1 Tryd.underlying40 rfl (by kernel_rfl) ?_)
          have t_2 := tc_1
          have inv_2 := invc_1
          refine (hsm _).mono ?_; rintro e w_2 ⟨rfl, hb_2⟩
          have tc_2 := t_2.below hb_2 t_2.lt
          have invc_2 := inv_2.call hb_2
          clear t_2 inv_2 hb_2
          go_wp2_with (first | refine wpList_row_g rfl 40 _ rfl _ rfl _ _ _ _ tc_2 Tryd.underlying40 rfl (by kernel_rfl) ?_)
          have t_3 := tc_2
          have inv_3 := invc_2
          refine (hTo _ inv_3).mono ?_; rintro e w_3 ⟨rfl, hb_3⟩
          have tc_3 := t_3.below hb_3 t_3.lt
          have invc_3 := inv_3.call hb_3
          clear t_3 inv_3 hb_3
          have t_4 := (tc_3.alloc (.cells (stA0 0 false) 43))
          have x_4 := (Wd.Blk.new w_3 43 (stA0 0 false))
          have inv_4 := (invc_3.alloc (.cells (stA0 0 false) 43))
          go_wp2_with (first | refine wpList_store_new rfl 43 _ _ rfl rfl w_3.heap.size (stA0 0 false) rfl rfl _ (stA0 0 false) w_3 rfl rfl rfl (by kernel_rfl) (by kernel_rfl) ?_ | refine wpList_row_g rfl 40 _ rfl _ rfl _ _ _ _ t_4 Tryd.underlying40 rfl (by kernel_rfl) ?_)
          have t_5 := t_4
          have x_5 := x_4
          have inv_5 := inv_4
          refine (hTu _ inv_5).mono ?_; rintro e w_5 ⟨rfl, hb_5⟩
          have tc_5 := t_5.below hb_5 t_5.lt
          have xc_5 := x_5.below hb_5 x_5.lt
          have invc_5 := inv_5.call hb_5
          clear t_5 x_5 inv_5 hb_5
          have t_6 := (tc_5.alloc (.cells (stA0 o k) 43))
          have x_6 := (xc_5.alloc (.cells (stA0 o k) 43))
          have y_6 := (Wd.Blk.new w_5 43 (stA0 o k))
          have inv_6 := (invc_5.alloc (.cells (stA0 o k) 43))
          go_wp2_with (first | refine wpList_store_new rfl 43 _ _ rfl rfl w_5.heap.size (stA0 o k) rfl rfl _ (stA0 0 false) w_5 rfl rfl rfl (by kernel_rfl) (by kernel_rfl) ?_)
          have t_7 := t_6
          have x_7 := x_6
          have y_7 := y_6
          have inv_7 := inv_6
          refine (hY1 _).mono ?_; rintro e w_7 ⟨rfl, hb_7⟩
          have tc_7 := t_7.below hb_7 t_7.lt
          have xc_7 := x_7.below hb_7 x_7.lt
          have yc_7 := y_7.below hb_7 y_7.lt
          have invc_7 := inv_7.call hb_7
          clear t_7 x_7 y_7 inv_7 hb_7
          go_wp2_with fail
          have t_8 := tc_7
          have x_8 := xc_7
          have y_8 := yc_7
          have inv_8 := invc_7
          refine (hY2 _).mono ?_; rintro e w_8 ⟨rfl, hb_8⟩
          have tc_8 := t_8.below hb_8 t_8.lt
          have xc_8 := x_8.below hb_8 x_8.lt
          have yc_8 := y_8.below hb_8 y_8.lt
          have invc_8 := inv_8.call hb_8
          clear t_8 x_8 y_8 inv_8 hb_8
          have x0 := xc_8.cell 0; have x1 := xc_8.cell 1; simp at x0 x1
          have y0 := yc_8.cell 0; have y1 := yc_8.cell 1; simp at y0 y1
          go_wp2_with fail
          go_ret
          exact ⟨rfl, invc_8.2⟩
  · rw [if_neg hn] at hsm
    go_enter Tryd.func9, Tryd.ntmps9
    go_wp2_with fail
    have t_1 := (Wd.Blk.new w 40 (tbA F L A n m))
    have inv_1 := (i0.alloc (.cells (tbA F L A n m) 40))
    refine (begins12_any _ inv_1.1).mono ?_; rintro e w_1 ⟨rfl, hb_1⟩
    have tc_1 := t_1.below hb_1 t_1.lt
    have invc_1 := inv_1.call hb_1
    clear t_1 inv_1 hb_1
    go_wp2_with (first | refine wpList_row_g rfl 40 _ rfl _ rfl _ _ _ _ tc_1 Tryd.underlying40 rfl (by kernel_rfl) ?_)
    have t_2 := tc_1
    have inv_2 := invc_1
    refine (hsm _).mono ?_; rintro e w_2 ⟨rfl, hb_2⟩
    have tc_2 := t_2.below hb_2 t_2.lt
    have invc_2 := inv_2.call hb_2
    clear t_2 inv_2 hb_2
    go_wp2_with fail
    go_ret
    exact ⟨rfl, invc_2.2⟩
end Go.Proofs.YtefcjccapekjdaaDoor.Tb
