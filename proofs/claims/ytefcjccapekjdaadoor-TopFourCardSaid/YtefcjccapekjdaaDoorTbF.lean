/-
  LOCAL: TopFour walked.
-/
import Derived.Test.YtefcjccapekjdaaDoorTbE
import Derived.Test.YtefcjccapekjdaaDoorTbN
namespace Go.Proofs.YtefcjccapekjdaaDoor.Tb
open Go.ChangeShapes Go.WideShapes Go.ChangeAt Go.RowKit
open Go.Proofs.YtefcjccapekjdaaDoor
open Go.Proofs.YtefcjccapekjdaaDoor.Wd
open Go.Proofs.YtefcjccapekjdaaDoor.Rec
open Go.Proofs.YtefcjccapekjdaaDoor.Yr
open Go.Proofs.YtefcjccapekjdaaDoor.Clk (yrV yrE)
open Go.Proofs.YtefcjccapekjdaaDoor.Civ (Tab Inv)
set_option linter.unusedVariables false
theorem off_same {r : Rc} {Y t z : Int} (h : r.std = z) (h2 : r.dst = z) : r.off Y t = z := by unfold Rc.off; rw [h, h2]; split <;> rfl
set_option maxRecDepth 20000 in
set_option maxHeartbeats 8000000 in
attribute [-go_sem] run_eql_struct in
theorem four_any (F L : Int) (A : Option Addr) (n m : Nat) (l : List Rc) (c : Int) (w : World) (hT : Tab w) (hR : Recs w w.heap.size A n l) (hm : n ≤ maxLen) (hs : -9223372036854775808 ≤ c ∧ c ≤ 9223372036854775807) :
    Calls Tryd.prog 10 #[tbV F L A n m, .int .i64 c] w fun e w' => e = .returned (.bool true) ∧ Below w.heap.size w w' := by
  have i0 := Civ.Inv.start hT
  have hsm := fun w' => small_any F L A n m w' hm
  have hFr := fun w' (i : Inv w w') => from_any F L A n m _ l c w' i.1 (hR.below i.2) i.2.size hm hs
  have hY := fun w' => Clk.year_any c w' hs.1 hs.2
  by_cases hn : n ≤ 60
  · rw [if_pos hn] at hsm
    clear hn
    by_cases he : atE F L l c = 0
    · have h' := atE_0.1 he
      have hyb := yr_bd h'.2.1
      obtain ⟨_, y2, c1, c2⟩ := hyb
      have hG := local_four he
      have hSe := fun w' (i : Inv w w') => second_any F L A n m _ l c w' i.1 (hR.below i.2) i.2.size hm hs
      have hPk := fun w' (i : Inv w w') => pick_at (c := m) (y := yrV c) i.1 (hR.below i.2) i.2.size hm h'.1 h'.2.2 y2
      have hAt := fun t w' (i : Inv w w') => at_at (t := t) i.1 (pick_bd hR h'.1 (yrV c)) (pick_ok h'.1 (yrV c)) h'.2.2 y2
      have hbd := pick_bd hR h'.1 (yrV c)
      have hnr := Rc.near (pick_ok h'.1 (yrV c))
      rw [he] at hFr
      rw [h'.2.1] at hY
      clear he h'
      generalize pick F L l (yrV c) = r at *
      have hof : ∀ w', Calls Tryd.prog 16 #[r.V] w' fun e w'' => e = .returned (.tuple #[.int .i64 r.std, .int .i64 r.dst]) ∧ Below w'.heap.size w' w'' := fun w' => offs_any r.b r.c r.d r.p r.q w' hbd
      have hA1 := hAt (c - r.std)
      have hA2 := hAt (c - r.dst)
      obtain ⟨⟨n1, n2⟩, n3, n4⟩ := hnr
      clear hAt hbd
      generalize yrV c = Y at *
      generalize seC F L l c = b at *
      have hoff := fun t z => off_same (r := r) (Y := Y) (t := t) (z := z)
      generalize hk1 : r.sum Y (c - r.std) = k1 at *
      generalize hk2 : r.sum Y (c - r.dst) = k2 at *
      clear hk1 hk2
      rcases hG with ⟨g1, g2, g3, g4⟩ | ⟨g0, ⟨g1, g2, g3, g4, g5⟩ | ⟨g1, g2, g3, g4, g5⟩ | ⟨g1, g2, g3, g4, g5, g6⟩ | ⟨g1, g2, g3, g4⟩⟩
      · rw [g1, g4] at hFr; rw [g2] at hSe; rw [hoff _ _ rfl g3.symm, g3] at hA1; rw [hoff _ _ g3 rfl] at hA2
        rw [g3] at hFr
        clear hoff g1 g2 g4
        rw [g3] at hof
        generalize r.std = sd at *
        generalize r.dst = dd at *
        subst g3
        have e1 : (c - sd != -4611686018427387904) = true := by rw [bne_iff_ne]; omega
        go_enter Tryd.func10, Tryd.ntmps10
        go_wp2_with fail
        have t_1 := (Wd.Blk.new w 40 (tbA F L A n m))
        have inv_1 := (i0.alloc (.cells (tbA F L A n m) 40))
        refine (begins12_any _ inv_1.1).mono ?_; rintro e w_1 ⟨rfl, hb_1⟩
        have tc_1 := t_1.below hb_1 t_1.lt
        have invc_1 := inv_1.call hb_1
        clear t_1 inv_1 hb_1
        go_wp2_with (first | refine wpList_row_g rfl 40 _ rfl _ rfl _ _ _ _ tc_1 Tryd.underlying40 rfl (by kernel_rfl) ?_)
        have t_2 := tc_1
        have inv_2 := invc_1
        refine (hsm _).mono ?_; rintro e w_2 ⟨rfl, hb_2⟩
        have tc_2 := t_2.below hb_2 t_2.lt
        have invc_2 := inv_2.call hb_2
        clear t_2 inv_2 hb_2
        go_wp2_with (first | refine wpList_row_g rfl 40 _ rfl _ rfl _ _ _ _ tc_2 Tryd.underlying40 rfl (by kernel_rfl) ?_)
        have t_3 := tc_2
        have inv_3 := invc_2
        refine (hFr _ inv_3).mono ?_; rintro e w_3 ⟨rfl, hb_3⟩
        have tc_3 := t_3.below hb_3 t_3.lt
        have invc_3 := inv_3.call hb_3
        clear t_3 inv_3 hb_3
        go_wp2_with fail
        have t_4 := tc_3
        have inv_4 := invc_3
        refine (hY _).mono ?_; rintro e w_4 ⟨rfl, hb_4⟩
        have tc_4 := t_4.below hb_4 t_4.lt
        have invc_4 := inv_4.call hb_4
        clear t_4 inv_4 hb_4
        go_wp2_with (first | refine wpList_row_g rfl 40 _ rfl _ rfl _ _ _ _ tc_4 Tryd.underlying40 rfl (by kernel_rfl) ?_)
        have t_5 := tc_4
        have inv_5 := invc_4
        refine (hPk _ inv_5).mono ?_; rintro e w_5 ⟨rfl, hb_5⟩
        have tc_5 := t_5.below hb_5 t_5.lt
        have invc_5 := inv_5.call hb_5
        clear t_5 inv_5 hb_5
        have t_6 := (tc_5.alloc (.cells r.A 26))
        have r_6 := (Wd.Blk.new w_5 26 r.A)
        have inv_6 := (invc_5.alloc (.cells r.A 26))
        go_wp2_with (first | refine wpList_store_new rfl 26 _ _ rfl rfl w_5.heap.size r.A rfl rfl _ z19 w_5 rfl rfl rfl (by kernel_rfl) (by kernel_rfl) ?_ | refine wpList_row_g rfl 26 _ rfl _ rfl _ _ _ _ r_6 Tryd.underlying26 rfl (by kernel_rfl) ?_)
        have t_7 := t_6
        have r_7 := r_6
        have inv_7 := inv_6
        refine (hof _).mono ?_; rintro e w_7 ⟨rfl, hb_7⟩
        have tc_7 := t_7.below hb_7 t_7.lt
        have rc_7 := r_7.below hb_7 r_7.lt
        have invc_7 := inv_7.call hb_7
        clear t_7 r_7 inv_7 hb_7
        go_wp2_with fail
        have t_8 := (tc_7.alloc (.cells #[.int .i64 sd, .int .i64 sd] 2))
        have r_8 := (rc_7.alloc (.cells #[.int .i64 sd, .int .i64 sd] 2))
        have l_8 := (Wd.Blk.new w_7 2 #[.int .i64 sd, .int .i64 sd])
        have inv_8 := (invc_7.alloc (.cells #[.int .i64 sd, .int .i64 sd] 2))
        skip
        have hloop := And.intro inv_8 (And.intro t_8 (And.intro r_8 l_8))
        go_loopw [14, 15, 16, 69] (fun n_ t_ s_ i_ w' => ∃ k : Nat, i_ = .int .i64 k ∧ ((k = 0 ∧ n_ = .int .i64 0 ∧ t_ = .bool false ∧ s_ = .int .i64 (-4611686018427387904)) ∨ (k = 1 ∧ n_ = .int .i64 1 ∧ t_ = .bool true ∧ s_ = .int .i64 (c - sd)) ∨ (k = 2 ∧ n_ = .int .i64 1 ∧ t_ = .bool true ∧ s_ = .int .i64 (c - sd))) ∧ Inv w w' ∧ Blk w' w.heap.size 40 (tbA F L A n m) ∧ Blk w' w_5.heap.size 26 r.A ∧ Blk w' w_7.heap.size 2 #[.int .i64 sd, .int .i64 sd]) (fun _ _ _ i_ _ => 2 - (intOf i_).toNat)
        case atStart => exact ⟨0, rfl, Or.inl ⟨rfl, rfl, rfl, rfl⟩, hloop⟩
        case round =>
          clear hloop
          obtain ⟨k, rfl, hk, iv, ht, hr, hl⟩ := hrel
          have l0 := hl.cell 0; have l1 := hl.cell 1; simp at l0 l1
          rcases hk with ⟨rfl, rfl, rfl, rfl⟩ | ⟨rfl, rfl, rfl, rfl⟩ | ⟨rfl, rfl, rfl, rfl⟩
          · skip
            go_wp2_with (first | refine wpList_row_g rfl 26 _ rfl _ rfl _ _ _ _ hr Tryd.underlying26 rfl (by kernel_rfl) ?_)
            have t_19 := ht
            have r_19 := hr
            have l_19 := hl
            have inv_19 := iv
            refine (hA1 _ inv_19).mono ?_; rintro e w_19 ⟨rfl, hb_19⟩
            have tc_19 := t_19.below hb_19 t_19.lt
            have rc_19 := r_19.below hb_19 r_19.lt
            have lc_19 := l_19.below hb_19 l_19.lt
            have invc_19 := inv_19.call hb_19
            clear t_19 r_19 l_19 inv_19 hb_19
            clear l0 l1
            have t_20 := (tc_19.alloc (.cells (stA0 sd k1) 43))
            have r_20 := (rc_19.alloc (.cells (stA0 sd k1) 43))
            have l_20 := (lc_19.alloc (.cells (stA0 sd k1) 43))
            have x_20 := (Wd.Blk.new w_19 43 (stA0 sd k1))
            have inv_20 := (invc_19.alloc (.cells (stA0 sd k1) 43))
            have x0 := x_20.cell 0; simp at x0
            go_upto_region 22 with (first | refine wpList_store_new rfl 43 _ _ rfl rfl w_19.heap.size (stA0 sd k1) rfl rfl _ (stA0 0 false) w_19 rfl rfl rfl (by kernel_rfl) (by kernel_rfl) ?_)
            go_wp2_with fail
            go_roundw
            case rel => exact ⟨1, by go_num, Or.inr (Or.inl ⟨rfl, rfl, rfl, rfl⟩), inv_20, t_20, r_20, l_20⟩
            case measure => simp [intOf]
          · skip
            go_wp2_with (first | refine wpList_row_g rfl 26 _ rfl _ rfl _ _ _ _ hr Tryd.underlying26 rfl (by kernel_rfl) ?_)
            have t_29 := ht
            have r_29 := hr
            have l_29 := hl
            have inv_29 := iv
            refine (hA2 _ inv_29).mono ?_; rintro e w_29 ⟨rfl, hb_29⟩
            have tc_29 := t_29.below hb_29 t_29.lt
            have rc_29 := r_29.below hb_29 r_29.lt
            have lc_29 := l_29.below hb_29 l_29.lt
            have invc_29 := inv_29.call hb_29
            clear t_29 r_29 l_29 inv_29 hb_29
            clear l0 l1
            have t_30 := (tc_29.alloc (.cells (stA0 sd k2) 43))
            have r_30 := (rc_29.alloc (.cells (stA0 sd k2) 43))
            have l_30 := (lc_29.alloc (.cells (stA0 sd k2) 43))
            have x_30 := (Wd.Blk.new w_29 43 (stA0 sd k2))
            have inv_30 := (invc_29.alloc (.cells (stA0 sd k2) 43))
            have x0 := x_30.cell 0; simp at x0
            go_upto_region 22 with (first | refine wpList_store_new rfl 43 _ _ rfl rfl w_29.heap.size (stA0 sd k2) rfl rfl _ (stA0 0 false) w_29 rfl rfl rfl (by kernel_rfl) (by kernel_rfl) ?_)
            go_wp2_with fail
            go_roundw
            case rel => exact ⟨2, by go_num, Or.inr (Or.inr ⟨rfl, rfl, rfl, rfl⟩), inv_30, t_30, r_30, l_30⟩
            case measure => simp [intOf]
          · skip
            clear l0 l1
            go_wp2_with (first | refine wpList_row_g rfl 40 _ rfl _ rfl _ _ _ _ ht Tryd.underlying40 rfl (by kernel_rfl) ?_)
            have t_39 := ht
            have inv_39 := iv
            refine (hSe _ inv_39).mono ?_; rintro e w_39 ⟨rfl, hb_39⟩
            have tc_39 := t_39.below hb_39 t_39.lt
            have invc_39 := inv_39.call hb_39
            clear t_39 inv_39 hb_39
            go_wp2_with fail
            go_ret
            exact ⟨rfl, invc_39.2⟩
      · rw [g1, g3] at hFr; rw [g2] at hSe; rw [g4] at hA1; rw [g5] at hA2
        clear hoff g1 g2 g3 g4 g5
        generalize r.std = sd at *
        generalize r.dst = dd at *
        have e1 : (c - sd != -4611686018427387904) = true := by rw [bne_iff_ne]; omega
        have e2 : (c - dd + sd == c) = false := by rw [beq_eq_false_iff_ne]; omega
        clear g0
        go_enter Tryd.func10, Tryd.ntmps10
        go_wp2_with fail
        have t_1 := (Wd.Blk.new w 40 (tbA F L A n m))
        have inv_1 := (i0.alloc (.cells (tbA F L A n m) 40))
        refine (begins12_any _ inv_1.1).mono ?_; rintro e w_1 ⟨rfl, hb_1⟩
        have tc_1 := t_1.below hb_1 t_1.lt
        have invc_1 := inv_1.call hb_1
        clear t_1 inv_1 hb_1
        go_wp2_with (first | refine wpList_row_g rfl 40 _ rfl _ rfl _ _ _ _ tc_1 Tryd.underlying40 rfl (by kernel_rfl) ?_)
        have t_2 := tc_1
        have inv_2 := invc_1
        refine (hsm _).mono ?_; rintro e w_2 ⟨rfl, hb_2⟩
        have tc_2 := t_2.below hb_2 t_2.lt
        have invc_2 := inv_2.call hb_2
        clear t_2 inv_2 hb_2
        go_wp2_with (first | refine wpList_row_g rfl 40 _ rfl _ rfl _ _ _ _ tc_2 Tryd.underlying40 rfl (by kernel_rfl) ?_)
        have t_3 := tc_2
        have inv_3 := invc_2
        refine (hFr _ inv_3).mono ?_; rintro e w_3 ⟨rfl, hb_3⟩
        have tc_3 := t_3.below hb_3 t_3.lt
        have invc_3 := inv_3.call hb_3
        clear t_3 inv_3 hb_3
        go_wp2_with fail
        have t_4 := tc_3
        have inv_4 := invc_3
        refine (hY _).mono ?_; rintro e w_4 ⟨rfl, hb_4⟩
        have tc_4 := t_4.below hb_4 t_4.lt
        have invc_4 := inv_4.call hb_4
        clear t_4 inv_4 hb_4
        go_wp2_with (first | refine wpList_row_g rfl 40 _ rfl _ rfl _ _ _ _ tc_4 Tryd.underlying40 rfl (by kernel_rfl) ?_)
        have t_5 := tc_4
        have inv_5 := invc_4
        refine (hPk _ inv_5).mono ?_; rintro e w_5 ⟨rfl, hb_5⟩
        have tc_5 := t_5.below hb_5 t_5.lt
        have invc_5 := inv_5.call hb_5
        clear t_5 inv_5 hb_5
        have t_6 := (tc_5.alloc (.cells r.A 26))
        have r_6 := (Wd.Blk.new w_5 26 r.A)
        have inv_6 := (invc_5.alloc (.cells r.A 26))
        go_wp2_with (first | refine wpList_store_new rfl 26 _ _ rfl rfl w_5.heap.size r.A rfl rfl _ z19 w_5 rfl rfl rfl (by kernel_rfl) (by kernel_rfl) ?_ | refine wpList_row_g rfl 26 _ rfl _ rfl _ _ _ _ r_6 Tryd.underlying26 rfl (by kernel_rfl) ?_)
        have t_7 := t_6
        have r_7 := r_6
        have inv_7 := inv_6
        refine (hof _).mono ?_; rintro e w_7 ⟨rfl, hb_7⟩
        have tc_7 := t_7.below hb_7 t_7.lt
        have rc_7 := r_7.below hb_7 r_7.lt
        have invc_7 := inv_7.call hb_7
        clear t_7 r_7 inv_7 hb_7
        go_wp2_with fail
        have t_8 := (tc_7.alloc (.cells #[.int .i64 sd, .int .i64 dd] 2))
        have r_8 := (rc_7.alloc (.cells #[.int .i64 sd, .int .i64 dd] 2))
        have l_8 := (Wd.Blk.new w_7 2 #[.int .i64 sd, .int .i64 dd])
        have inv_8 := (invc_7.alloc (.cells #[.int .i64 sd, .int .i64 dd] 2))
        skip
        have hloop := And.intro inv_8 (And.intro t_8 (And.intro r_8 l_8))
        go_loopw [14, 15, 16, 69] (fun n_ t_ s_ i_ w' => ∃ k : Nat, i_ = .int .i64 k ∧ ((k = 0 ∧ n_ = .int .i64 0 ∧ t_ = .bool false ∧ s_ = .int .i64 (-4611686018427387904)) ∨ (k = 1 ∧ n_ = .int .i64 1 ∧ t_ = .bool true ∧ s_ = .int .i64 (c - sd)) ∨ (k = 2 ∧ n_ = .int .i64 1 ∧ t_ = .bool true ∧ s_ = .int .i64 (c - sd))) ∧ Inv w w' ∧ Blk w' w.heap.size 40 (tbA F L A n m) ∧ Blk w' w_5.heap.size 26 r.A ∧ Blk w' w_7.heap.size 2 #[.int .i64 sd, .int .i64 dd]) (fun _ _ _ i_ _ => 2 - (intOf i_).toNat)
        case atStart => exact ⟨0, rfl, Or.inl ⟨rfl, rfl, rfl, rfl⟩, hloop⟩
        case round =>
          clear hloop
          obtain ⟨k, rfl, hk, iv, ht, hr, hl⟩ := hrel
          have l0 := hl.cell 0; have l1 := hl.cell 1; simp at l0 l1
          rcases hk with ⟨rfl, rfl, rfl, rfl⟩ | ⟨rfl, rfl, rfl, rfl⟩ | ⟨rfl, rfl, rfl, rfl⟩
          · skip
            go_wp2_with (first | refine wpList_row_g rfl 26 _ rfl _ rfl _ _ _ _ hr Tryd.underlying26 rfl (by kernel_rfl) ?_)
            have t_19 := ht
            have r_19 := hr
            have l_19 := hl
            have inv_19 := iv
            refine (hA1 _ inv_19).mono ?_; rintro e w_19 ⟨rfl, hb_19⟩
            have tc_19 := t_19.below hb_19 t_19.lt
            have rc_19 := r_19.below hb_19 r_19.lt
            have lc_19 := l_19.below hb_19 l_19.lt
            have invc_19 := inv_19.call hb_19
            clear t_19 r_19 l_19 inv_19 hb_19
            clear l0 l1
            have t_20 := (tc_19.alloc (.cells (stA0 sd k1) 43))
            have r_20 := (rc_19.alloc (.cells (stA0 sd k1) 43))
            have l_20 := (lc_19.alloc (.cells (stA0 sd k1) 43))
            have x_20 := (Wd.Blk.new w_19 43 (stA0 sd k1))
            have inv_20 := (invc_19.alloc (.cells (stA0 sd k1) 43))
            have x0 := x_20.cell 0; simp at x0
            go_upto_region 22 with (first | refine wpList_store_new rfl 43 _ _ rfl rfl w_19.heap.size (stA0 sd k1) rfl rfl _ (stA0 0 false) w_19 rfl rfl rfl (by kernel_rfl) (by kernel_rfl) ?_)
            go_wp2_with fail
            go_roundw
            case rel => exact ⟨1, by go_num, Or.inr (Or.inl ⟨rfl, rfl, rfl, rfl⟩), inv_20, t_20, r_20, l_20⟩
            case measure => simp [intOf]
          · skip
            go_wp2_with (first | refine wpList_row_g rfl 26 _ rfl _ rfl _ _ _ _ hr Tryd.underlying26 rfl (by kernel_rfl) ?_)
            have t_29 := ht
            have r_29 := hr
            have l_29 := hl
            have inv_29 := iv
            refine (hA2 _ inv_29).mono ?_; rintro e w_29 ⟨rfl, hb_29⟩
            have tc_29 := t_29.below hb_29 t_29.lt
            have rc_29 := r_29.below hb_29 r_29.lt
            have lc_29 := l_29.below hb_29 l_29.lt
            have invc_29 := inv_29.call hb_29
            clear t_29 r_29 l_29 inv_29 hb_29
            clear l0 l1
            have t_30 := (tc_29.alloc (.cells (stA0 sd k2) 43))
            have r_30 := (rc_29.alloc (.cells (stA0 sd k2) 43))
            have l_30 := (lc_29.alloc (.cells (stA0 sd k2) 43))
            have x_30 := (Wd.Blk.new w_29 43 (stA0 sd k2))
            have inv_30 := (invc_29.alloc (.cells (stA0 sd k2) 43))
            have x0 := x_30.cell 0; simp at x0
            go_upto_region 22 with (first | refine wpList_store_new rfl 43 _ _ rfl rfl w_29.heap.size (stA0 sd k2) rfl rfl _ (stA0 0 false) w_29 rfl rfl rfl (by kernel_rfl) (by kernel_rfl) ?_)
            go_wp2_with fail
            go_roundw
            case rel => exact ⟨2, by go_num, Or.inr (Or.inr ⟨rfl, rfl, rfl, rfl⟩), inv_30, t_30, r_30, l_30⟩
            case measure => simp [intOf]
          · skip
            clear l0 l1
            go_wp2_with (first | refine wpList_row_g rfl 40 _ rfl _ rfl _ _ _ _ ht Tryd.underlying40 rfl (by kernel_rfl) ?_)
            have t_39 := ht
            have inv_39 := iv
            refine (hSe _ inv_39).mono ?_; rintro e w_39 ⟨rfl, hb_39⟩
            have tc_39 := t_39.below hb_39 t_39.lt
            have invc_39 := inv_39.call hb_39
            clear t_39 inv_39 hb_39
            go_wp2_with fail
            go_ret
            exact ⟨rfl, invc_39.2⟩
      · rw [g1, g3] at hFr; rw [g2] at hSe; rw [g4] at hA1; rw [g5] at hA2
        clear hoff g1 g2 g3 g4 g5
        generalize r.std = sd at *
        generalize r.dst = dd at *
        have e1 : (c - dd != -4611686018427387904) = true := by rw [bne_iff_ne]; omega
        have e2 : (c - sd + dd == c) = false := by rw [beq_eq_false_iff_ne]; omega
        clear g0
        go_enter Tryd.func10, Tryd.ntmps10
        go_wp2_with fail
        have t_1 := (Wd.Blk.new w 40 (tbA F L A n m))
        have inv_1 := (i0.alloc (.cells (tbA F L A n m) 40))
        refine (begins12_any _ inv_1.1).mono ?_; rintro e w_1 ⟨rfl, hb_1⟩
        have tc_1 := t_1.below hb_1 t_1.lt
        have invc_1 := inv_1.call hb_1
        clear t_1 inv_1 hb_1
        go_wp2_with (first | refine wpList_row_g rfl 40 _ rfl _ rfl _ _ _ _ tc_1 Tryd.underlying40 rfl (by kernel_rfl) ?_)
        have t_2 := tc_1
        have inv_2 := invc_1
        refine (hsm _).mono ?_; rintro e w_2 ⟨rfl, hb_2⟩
        have tc_2 := t_2.below hb_2 t_2.lt
        have invc_2 := inv_2.call hb_2
        clear t_2 inv_2 hb_2
        go_wp2_with (first | refine wpList_row_g rfl 40 _ rfl _ rfl _ _ _ _ tc_2 Tryd.underlying40 rfl (by kernel_rfl) ?_)
        have t_3 := tc_2
        have inv_3 := invc_2
        refine (hFr _ inv_3).mono ?_; rintro e w_3 ⟨rfl, hb_3⟩
        have tc_3 := t_3.below hb_3 t_3.lt
        have invc_3 := inv_3.call hb_3
        clear t_3 inv_3 hb_3
        go_wp2_with fail
        have t_4 := tc_3
        have inv_4 := invc_3
        refine (hY _).mono ?_; rintro e w_4 ⟨rfl, hb_4⟩
        have tc_4 := t_4.below hb_4 t_4.lt
        have invc_4 := inv_4.call hb_4
        clear t_4 inv_4 hb_4
        go_wp2_with (first | refine wpList_row_g rfl 40 _ rfl _ rfl _ _ _ _ tc_4 Tryd.underlying40 rfl (by kernel_rfl) ?_)
        have t_5 := tc_4
        have inv_5 := invc_4
        refine (hPk _ inv_5).mono ?_; rintro e w_5 ⟨rfl, hb_5⟩
        have tc_5 := t_5.below hb_5 t_5.lt
        have invc_5 := inv_5.call hb_5
        clear t_5 inv_5 hb_5
        have t_6 := (tc_5.alloc (.cells r.A 26))
        have r_6 := (Wd.Blk.new w_5 26 r.A)
        have inv_6 := (invc_5.alloc (.cells r.A 26))
        go_wp2_with (first | refine wpList_store_new rfl 26 _ _ rfl rfl w_5.heap.size r.A rfl rfl _ z19 w_5 rfl rfl rfl (by kernel_rfl) (by kernel_rfl) ?_ | refine wpList_row_g rfl 26 _ rfl _ rfl _ _ _ _ r_6 Tryd.underlying26 rfl (by kernel_rfl) ?_)
        have t_7 := t_6
        have r_7 := r_6
        have inv_7 := inv_6
        refine (hof _).mono ?_; rintro e w_7 ⟨rfl, hb_7⟩
        have tc_7 := t_7.below hb_7 t_7.lt
        have rc_7 := r_7.below hb_7 r_7.lt
        have invc_7 := inv_7.call hb_7
        clear t_7 r_7 inv_7 hb_7
        go_wp2_with fail
        have t_8 := (tc_7.alloc (.cells #[.int .i64 sd, .int .i64 dd] 2))
        have r_8 := (rc_7.alloc (.cells #[.int .i64 sd, .int .i64 dd] 2))
        have l_8 := (Wd.Blk.new w_7 2 #[.int .i64 sd, .int .i64 dd])
        have inv_8 := (invc_7.alloc (.cells #[.int .i64 sd, .int .i64 dd] 2))
        skip
        have hloop := And.intro inv_8 (And.intro t_8 (And.intro r_8 l_8))
        go_loopw [14, 15, 16, 69] (fun n_ t_ s_ i_ w' => ∃ k : Nat, i_ = .int .i64 k ∧ ((k = 0 ∧ n_ = .int .i64 0 ∧ t_ = .bool false ∧ s_ = .int .i64 (-4611686018427387904)) ∨ (k = 1 ∧ n_ = .int .i64 0 ∧ t_ = .bool false ∧ s_ = .int .i64 (-4611686018427387904)) ∨ (k = 2 ∧ n_ = .int .i64 1 ∧ t_ = .bool true ∧ s_ = .int .i64 (c - dd))) ∧ Inv w w' ∧ Blk w' w.heap.size 40 (tbA F L A n m) ∧ Blk w' w_5.heap.size 26 r.A ∧ Blk w' w_7.heap.size 2 #[.int .i64 sd, .int .i64 dd]) (fun _ _ _ i_ _ => 2 - (intOf i_).toNat)
        case atStart => exact ⟨0, rfl, Or.inl ⟨rfl, rfl, rfl, rfl⟩, hloop⟩
        case round =>
          clear hloop
          obtain ⟨k, rfl, hk, iv, ht, hr, hl⟩ := hrel
          have l0 := hl.cell 0; have l1 := hl.cell 1; simp at l0 l1
          rcases hk with ⟨rfl, rfl, rfl, rfl⟩ | ⟨rfl, rfl, rfl, rfl⟩ | ⟨rfl, rfl, rfl, rfl⟩
          · skip
            go_wp2_with (first | refine wpList_row_g rfl 26 _ rfl _ rfl _ _ _ _ hr Tryd.underlying26 rfl (by kernel_rfl) ?_)
            have t_19 := ht
            have r_19 := hr
            have l_19 := hl
            have inv_19 := iv
            refine (hA1 _ inv_19).mono ?_; rintro e w_19 ⟨rfl, hb_19⟩
            have tc_19 := t_19.below hb_19 t_19.lt
            have rc_19 := r_19.below hb_19 r_19.lt
            have lc_19 := l_19.below hb_19 l_19.lt
            have invc_19 := inv_19.call hb_19
            clear t_19 r_19 l_19 inv_19 hb_19
            clear l0 l1
            have t_20 := (tc_19.alloc (.cells (stA0 dd k1) 43))
            have r_20 := (rc_19.alloc (.cells (stA0 dd k1) 43))
            have l_20 := (lc_19.alloc (.cells (stA0 dd k1) 43))
            have x_20 := (Wd.Blk.new w_19 43 (stA0 dd k1))
            have inv_20 := (invc_19.alloc (.cells (stA0 dd k1) 43))
            have x0 := x_20.cell 0; simp at x0
            go_upto_region 22 with (first | refine wpList_store_new rfl 43 _ _ rfl rfl w_19.heap.size (stA0 dd k1) rfl rfl _ (stA0 0 false) w_19 rfl rfl rfl (by kernel_rfl) (by kernel_rfl) ?_)
            go_wp2_with fail
            go_roundw
            case rel => exact ⟨1, by go_num, Or.inr (Or.inl ⟨rfl, rfl, rfl, rfl⟩), inv_20, t_20, r_20, l_20⟩
            case measure => simp [intOf]
          · skip
            go_wp2_with (first | refine wpList_row_g rfl 26 _ rfl _ rfl _ _ _ _ hr Tryd.underlying26 rfl (by kernel_rfl) ?_)
            have t_29 := ht
            have r_29 := hr
            have l_29 := hl
            have inv_29 := iv
            refine (hA2 _ inv_29).mono ?_; rintro e w_29 ⟨rfl, hb_29⟩
            have tc_29 := t_29.below hb_29 t_29.lt
            have rc_29 := r_29.below hb_29 r_29.lt
            have lc_29 := l_29.below hb_29 l_29.lt
            have invc_29 := inv_29.call hb_29
            clear t_29 r_29 l_29 inv_29 hb_29
            clear l0 l1
            have t_30 := (tc_29.alloc (.cells (stA0 dd k2) 43))
            have r_30 := (rc_29.alloc (.cells (stA0 dd k2) 43))
            have l_30 := (lc_29.alloc (.cells (stA0 dd k2) 43))
            have x_30 := (Wd.Blk.new w_29 43 (stA0 dd k2))
            have inv_30 := (invc_29.alloc (.cells (stA0 dd k2) 43))
            have x0 := x_30.cell 0; simp at x0
            go_upto_region 22 with (first | refine wpList_store_new rfl 43 _ _ rfl rfl w_29.heap.size (stA0 dd k2) rfl rfl _ (stA0 0 false) w_29 rfl rfl rfl (by kernel_rfl) (by kernel_rfl) ?_)
            go_wp2_with fail
            go_roundw
            case rel => exact ⟨2, by go_num, Or.inr (Or.inr ⟨rfl, rfl, rfl, rfl⟩), inv_30, t_30, r_30, l_30⟩
            case measure => simp [intOf]
          · skip
            clear l0 l1
            go_wp2_with (first | refine wpList_row_g rfl 40 _ rfl _ rfl _ _ _ _ ht Tryd.underlying40 rfl (by kernel_rfl) ?_)
            have t_39 := ht
            have inv_39 := iv
            refine (hSe _ inv_39).mono ?_; rintro e w_39 ⟨rfl, hb_39⟩
            have tc_39 := t_39.below hb_39 t_39.lt
            have invc_39 := inv_39.call hb_39
            clear t_39 inv_39 hb_39
            go_wp2_with fail
            go_ret
            exact ⟨rfl, invc_39.2⟩
      · rw [g1, g3] at hFr; rw [g2, g4] at hSe; rw [g5] at hA1; rw [g6] at hA2
        clear hoff g1 g2 g3 g4 g5 g6
        generalize r.std = sd at *
        generalize r.dst = dd at *
        have e1 : (c - sd != -4611686018427387904) = true := by rw [bne_iff_ne]; omega
        have e2 : (c - dd != c - sd) = true := by rw [bne_iff_ne]; omega
        have e3 : ¬ dd = sd := fun h => g0 h.symm
        clear g0
        go_enter Tryd.func10, Tryd.ntmps10
        go_wp2_with fail
        have t_1 := (Wd.Blk.new w 40 (tbA F L A n m))
        have inv_1 := (i0.alloc (.cells (tbA F L A n m) 40))
        refine (begins12_any _ inv_1.1).mono ?_; rintro e w_1 ⟨rfl, hb_1⟩
        have tc_1 := t_1.below hb_1 t_1.lt
        have invc_1 := inv_1.call hb_1
        clear t_1 inv_1 hb_1
        go_wp2_with (first | refine wpList_row_g rfl 40 _ rfl _ rfl _ _ _ _ tc_1 Tryd.underlying40 rfl (by kernel_rfl) ?_)
        have t_2 := tc_1
        have inv_2 := invc_1
        refine (hsm _).mono ?_; rintro e w_2 ⟨rfl, hb_2⟩
        have tc_2 := t_2.below hb_2 t_2.lt
        have invc_2 := inv_2.call hb_2
        clear t_2 inv_2 hb_2
        go_wp2_with (first | refine wpList_row_g rfl 40 _ rfl _ rfl _ _ _ _ tc_2 Tryd.underlying40 rfl (by kernel_rfl) ?_)
        have t_3 := tc_2
        have inv_3 := invc_2
        refine (hFr _ inv_3).mono ?_; rintro e w_3 ⟨rfl, hb_3⟩
        have tc_3 := t_3.below hb_3 t_3.lt
        have invc_3 := inv_3.call hb_3
        clear t_3 inv_3 hb_3
        go_wp2_with fail
        have t_4 := tc_3
        have inv_4 := invc_3
        refine (hY _).mono ?_; rintro e w_4 ⟨rfl, hb_4⟩
        have tc_4 := t_4.below hb_4 t_4.lt
        have invc_4 := inv_4.call hb_4
        clear t_4 inv_4 hb_4
        go_wp2_with (first | refine wpList_row_g rfl 40 _ rfl _ rfl _ _ _ _ tc_4 Tryd.underlying40 rfl (by kernel_rfl) ?_)
        have t_5 := tc_4
        have inv_5 := invc_4
        refine (hPk _ inv_5).mono ?_; rintro e w_5 ⟨rfl, hb_5⟩
        have tc_5 := t_5.below hb_5 t_5.lt
        have invc_5 := inv_5.call hb_5
        clear t_5 inv_5 hb_5
        have t_6 := (tc_5.alloc (.cells r.A 26))
        have r_6 := (Wd.Blk.new w_5 26 r.A)
        have inv_6 := (invc_5.alloc (.cells r.A 26))
        go_wp2_with (first | refine wpList_store_new rfl 26 _ _ rfl rfl w_5.heap.size r.A rfl rfl _ z19 w_5 rfl rfl rfl (by kernel_rfl) (by kernel_rfl) ?_ | refine wpList_row_g rfl 26 _ rfl _ rfl _ _ _ _ r_6 Tryd.underlying26 rfl (by kernel_rfl) ?_)
        have t_7 := t_6
        have r_7 := r_6
        have inv_7 := inv_6
        refine (hof _).mono ?_; rintro e w_7 ⟨rfl, hb_7⟩
        have tc_7 := t_7.below hb_7 t_7.lt
        have rc_7 := r_7.below hb_7 r_7.lt
        have invc_7 := inv_7.call hb_7
        clear t_7 r_7 inv_7 hb_7
        go_wp2_with fail
        have t_8 := (tc_7.alloc (.cells #[.int .i64 sd, .int .i64 dd] 2))
        have r_8 := (rc_7.alloc (.cells #[.int .i64 sd, .int .i64 dd] 2))
        have l_8 := (Wd.Blk.new w_7 2 #[.int .i64 sd, .int .i64 dd])
        have inv_8 := (invc_7.alloc (.cells #[.int .i64 sd, .int .i64 dd] 2))
        skip
        have hloop := And.intro inv_8 (And.intro t_8 (And.intro r_8 l_8))
        go_loopw [14, 15, 16, 69] (fun n_ t_ s_ i_ w' => ∃ k : Nat, i_ = .int .i64 k ∧ ((k = 0 ∧ n_ = .int .i64 0 ∧ t_ = .bool false ∧ s_ = .int .i64 (-4611686018427387904)) ∨ (k = 1 ∧ n_ = .int .i64 1 ∧ t_ = .bool true ∧ s_ = .int .i64 (c - sd)) ∨ (k = 2 ∧ n_ = .int .i64 2 ∧ t_ = .bool true ∧ s_ = .int .i64 (c - dd))) ∧ Inv w w' ∧ Blk w' w.heap.size 40 (tbA F L A n m) ∧ Blk w' w_5.heap.size 26 r.A ∧ Blk w' w_7.heap.size 2 #[.int .i64 sd, .int .i64 dd]) (fun _ _ _ i_ _ => 2 - (intOf i_).toNat)
        case atStart => exact ⟨0, rfl, Or.inl ⟨rfl, rfl, rfl, rfl⟩, hloop⟩
        case round =>
          clear hloop
          obtain ⟨k, rfl, hk, iv, ht, hr, hl⟩ := hrel
          have l0 := hl.cell 0; have l1 := hl.cell 1; simp at l0 l1
          rcases hk with ⟨rfl, rfl, rfl, rfl⟩ | ⟨rfl, rfl, rfl, rfl⟩ | ⟨rfl, rfl, rfl, rfl⟩
          · skip
            go_wp2_with (first | refine wpList_row_g rfl 26 _ rfl _ rfl _ _ _ _ hr Tryd.underlying26 rfl (by kernel_rfl) ?_)
            have t_19 := ht
            have r_19 := hr
            have l_19 := hl
            have inv_19 := iv
            refine (hA1 _ inv_19).mono ?_; rintro e w_19 ⟨rfl, hb_19⟩
            have tc_19 := t_19.below hb_19 t_19.lt
            have rc_19 := r_19.below hb_19 r_19.lt
            have lc_19 := l_19.below hb_19 l_19.lt
            have invc_19 := inv_19.call hb_19
            clear t_19 r_19 l_19 inv_19 hb_19
            clear l0 l1
            have t_20 := (tc_19.alloc (.cells (stA0 sd k1) 43))
            have r_20 := (rc_19.alloc (.cells (stA0 sd k1) 43))
            have l_20 := (lc_19.alloc (.cells (stA0 sd k1) 43))
            have x_20 := (Wd.Blk.new w_19 43 (stA0 sd k1))
            have inv_20 := (invc_19.alloc (.cells (stA0 sd k1) 43))
            have x0 := x_20.cell 0; simp at x0
            go_upto_region 22 with (first | refine wpList_store_new rfl 43 _ _ rfl rfl w_19.heap.size (stA0 sd k1) rfl rfl _ (stA0 0 false) w_19 rfl rfl rfl (by kernel_rfl) (by kernel_rfl) ?_)
            go_wp2_with fail
            go_roundw
            case rel => exact ⟨1, by go_num, Or.inr (Or.inl ⟨rfl, rfl, rfl, rfl⟩), inv_20, t_20, r_20, l_20⟩
            case measure => simp [intOf]
          · skip
            go_wp2_with (first | refine wpList_row_g rfl 26 _ rfl _ rfl _ _ _ _ hr Tryd.underlying26 rfl (by kernel_rfl) ?_)
            have t_29 := ht
            have r_29 := hr
            have l_29 := hl
            have inv_29 := iv
            refine (hA2 _ inv_29).mono ?_; rintro e w_29 ⟨rfl, hb_29⟩
            have tc_29 := t_29.below hb_29 t_29.lt
            have rc_29 := r_29.below hb_29 r_29.lt
            have lc_29 := l_29.below hb_29 l_29.lt
            have invc_29 := inv_29.call hb_29
            clear t_29 r_29 l_29 inv_29 hb_29
            clear l0 l1
            have t_30 := (tc_29.alloc (.cells (stA0 dd k2) 43))
            have r_30 := (rc_29.alloc (.cells (stA0 dd k2) 43))
            have l_30 := (lc_29.alloc (.cells (stA0 dd k2) 43))
            have x_30 := (Wd.Blk.new w_29 43 (stA0 dd k2))
            have inv_30 := (invc_29.alloc (.cells (stA0 dd k2) 43))
            have x0 := x_30.cell 0; simp at x0
            go_upto_region 22 with (first | refine wpList_store_new rfl 43 _ _ rfl rfl w_29.heap.size (stA0 dd k2) rfl rfl _ (stA0 0 false) w_29 rfl rfl rfl (by kernel_rfl) (by kernel_rfl) ?_)
            go_wp2_with fail
            go_roundw
            case rel => exact ⟨2, by go_num, Or.inr (Or.inr ⟨rfl, rfl, rfl, rfl⟩), inv_30, t_30, r_30, l_30⟩
            case measure => simp [intOf]
          · skip
            clear l0 l1
            go_wp2_with (first | refine wpList_row_g rfl 40 _ rfl _ rfl _ _ _ _ ht Tryd.underlying40 rfl (by kernel_rfl) ?_)
            have t_39 := ht
            have inv_39 := iv
            refine (hSe _ inv_39).mono ?_; rintro e w_39 ⟨rfl, hb_39⟩
            have tc_39 := t_39.below hb_39 t_39.lt
            have invc_39 := inv_39.call hb_39
            clear t_39 inv_39 hb_39
            go_wp2_with fail
            go_ret
            exact ⟨rfl, invc_39.2⟩
      · rw [g1] at hFr; rw [g2] at hSe; rw [g3] at hA1; rw [g4] at hA2
        clear hoff g1 g2 g3 g4
        generalize frC F L l c = a at *
        generalize r.std = sd at *
        generalize r.dst = dd at *
        have e1 : (c - sd + dd == c) = false := by rw [beq_eq_false_iff_ne]; omega
        have e2 : (c - dd + sd == c) = false := by rw [beq_eq_false_iff_ne]; omega
        clear g0
        go_enter Tryd.func10, Tryd.ntmps10
        go_wp2_with fail
        have t_1 := (Wd.Blk.new w 40 (tbA F L A n m))
        have inv_1 := (i0.alloc (.cells (tbA F L A n m) 40))
        refine (begins12_any _ inv_1.1).mono ?_; rintro e w_1 ⟨rfl, hb_1⟩
        have tc_1 := t_1.below hb_1 t_1.lt
        have invc_1 := inv_1.call hb_1
        clear t_1 inv_1 hb_1
        go_wp2_with (first | refine wpList_row_g rfl 40 _ rfl _ rfl _ _ _ _ tc_1 Tryd.underlying40 rfl (by kernel_rfl) ?_)
        have t_2 := tc_1
        have inv_2 := invc_1
        refine (hsm _).mono ?_; rintro e w_2 ⟨rfl, hb_2⟩
        have tc_2 := t_2.below hb_2 t_2.lt
        have invc_2 := inv_2.call hb_2
        clear t_2 inv_2 hb_2
        go_wp2_with (first | refine wpList_row_g rfl 40 _ rfl _ rfl _ _ _ _ tc_2 Tryd.underlying40 rfl (by kernel_rfl) ?_)
        have t_3 := tc_2
        have inv_3 := invc_2
        refine (hFr _ inv_3).mono ?_; rintro e w_3 ⟨rfl, hb_3⟩
        have tc_3 := t_3.below hb_3 t_3.lt
        have invc_3 := inv_3.call hb_3
        clear t_3 inv_3 hb_3
        go_wp2_with fail
        have t_4 := tc_3
        have inv_4 := invc_3
        refine (hY _).mono ?_; rintro e w_4 ⟨rfl, hb_4⟩
        have tc_4 := t_4.below hb_4 t_4.lt
        have invc_4 := inv_4.call hb_4
        clear t_4 inv_4 hb_4
        go_wp2_with (first | refine wpList_row_g rfl 40 _ rfl _ rfl _ _ _ _ tc_4 Tryd.underlying40 rfl (by kernel_rfl) ?_)
        have t_5 := tc_4
        have inv_5 := invc_4
        refine (hPk _ inv_5).mono ?_; rintro e w_5 ⟨rfl, hb_5⟩
        have tc_5 := t_5.below hb_5 t_5.lt
        have invc_5 := inv_5.call hb_5
        clear t_5 inv_5 hb_5
        have t_6 := (tc_5.alloc (.cells r.A 26))
        have r_6 := (Wd.Blk.new w_5 26 r.A)
        have inv_6 := (invc_5.alloc (.cells r.A 26))
        go_wp2_with (first | refine wpList_store_new rfl 26 _ _ rfl rfl w_5.heap.size r.A rfl rfl _ z19 w_5 rfl rfl rfl (by kernel_rfl) (by kernel_rfl) ?_ | refine wpList_row_g rfl 26 _ rfl _ rfl _ _ _ _ r_6 Tryd.underlying26 rfl (by kernel_rfl) ?_)
        have t_7 := t_6
        have r_7 := r_6
        have inv_7 := inv_6
        refine (hof _).mono ?_; rintro e w_7 ⟨rfl, hb_7⟩
        have tc_7 := t_7.below hb_7 t_7.lt
        have rc_7 := r_7.below hb_7 r_7.lt
        have invc_7 := inv_7.call hb_7
        clear t_7 r_7 inv_7 hb_7
        go_wp2_with fail
        have t_8 := (tc_7.alloc (.cells #[.int .i64 sd, .int .i64 dd] 2))
        have r_8 := (rc_7.alloc (.cells #[.int .i64 sd, .int .i64 dd] 2))
        have l_8 := (Wd.Blk.new w_7 2 #[.int .i64 sd, .int .i64 dd])
        have inv_8 := (invc_7.alloc (.cells #[.int .i64 sd, .int .i64 dd] 2))
        skip
        have hloop := And.intro inv_8 (And.intro t_8 (And.intro r_8 l_8))
        go_loopw [14, 15, 16, 69] (fun n_ t_ s_ i_ w' => ∃ k : Nat, i_ = .int .i64 k ∧ ((k = 0 ∧ n_ = .int .i64 0 ∧ t_ = .bool false ∧ s_ = .int .i64 (-4611686018427387904)) ∨ (k = 1 ∧ n_ = .int .i64 0 ∧ t_ = .bool false ∧ s_ = .int .i64 (-4611686018427387904)) ∨ (k = 2 ∧ n_ = .int .i64 0 ∧ t_ = .bool false ∧ s_ = .int .i64 (-4611686018427387904))) ∧ Inv w w' ∧ Blk w' w.heap.size 40 (tbA F L A n m) ∧ Blk w' w_5.heap.size 26 r.A ∧ Blk w' w_7.heap.size 2 #[.int .i64 sd, .int .i64 dd]) (fun _ _ _ i_ _ => 2 - (intOf i_).toNat)
        case atStart => exact ⟨0, rfl, Or.inl ⟨rfl, rfl, rfl, rfl⟩, hloop⟩
        case round =>
          clear hloop
          obtain ⟨k, rfl, hk, iv, ht, hr, hl⟩ := hrel
          have l0 := hl.cell 0; have l1 := hl.cell 1; simp at l0 l1
          rcases hk with ⟨rfl, rfl, rfl, rfl⟩ | ⟨rfl, rfl, rfl, rfl⟩ | ⟨rfl, rfl, rfl, rfl⟩
          · skip
            go_wp2_with (first | refine wpList_row_g rfl 26 _ rfl _ rfl _ _ _ _ hr Tryd.underlying26 rfl (by kernel_rfl) ?_)
            have t_19 := ht
            have r_19 := hr
            have l_19 := hl
            have inv_19 := iv
            refine (hA1 _ inv_19).mono ?_; rintro e w_19 ⟨rfl, hb_19⟩
            have tc_19 := t_19.below hb_19 t_19.lt
            have rc_19 := r_19.below hb_19 r_19.lt
            have lc_19 := l_19.below hb_19 l_19.lt
            have invc_19 := inv_19.call hb_19
            clear t_19 r_19 l_19 inv_19 hb_19
            clear l0 l1
            have t_20 := (tc_19.alloc (.cells (stA0 dd k1) 43))
            have r_20 := (rc_19.alloc (.cells (stA0 dd k1) 43))
            have l_20 := (lc_19.alloc (.cells (stA0 dd k1) 43))
            have x_20 := (Wd.Blk.new w_19 43 (stA0 dd k1))
            have inv_20 := (invc_19.alloc (.cells (stA0 dd k1) 43))
            have x0 := x_20.cell 0; simp at x0
            go_upto_region 22 with (first | refine wpList_store_new rfl 43 _ _ rfl rfl w_19.heap.size (stA0 dd k1) rfl rfl _ (stA0 0 false) w_19 rfl rfl rfl (by kernel_rfl) (by kernel_rfl) ?_)
            go_wp2_with fail
            go_roundw
            case rel => exact ⟨1, by go_num, Or.inr (Or.inl ⟨rfl, rfl, rfl, rfl⟩), inv_20, t_20, r_20, l_20⟩
            case measure => simp [intOf]
          · skip
            go_wp2_with (first | refine wpList_row_g rfl 26 _ rfl _ rfl _ _ _ _ hr Tryd.underlying26 rfl (by kernel_rfl) ?_)
            have t_29 := ht
            have r_29 := hr
            have l_29 := hl
            have inv_29 := iv
            refine (hA2 _ inv_29).mono ?_; rintro e w_29 ⟨rfl, hb_29⟩
            have tc_29 := t_29.below hb_29 t_29.lt
            have rc_29 := r_29.below hb_29 r_29.lt
            have lc_29 := l_29.below hb_29 l_29.lt
            have invc_29 := inv_29.call hb_29
            clear t_29 r_29 l_29 inv_29 hb_29
            clear l0 l1
            have t_30 := (tc_29.alloc (.cells (stA0 sd k2) 43))
            have r_30 := (rc_29.alloc (.cells (stA0 sd k2) 43))
            have l_30 := (lc_29.alloc (.cells (stA0 sd k2) 43))
            have x_30 := (Wd.Blk.new w_29 43 (stA0 sd k2))
            have inv_30 := (invc_29.alloc (.cells (stA0 sd k2) 43))
            have x0 := x_30.cell 0; simp at x0
            go_upto_region 22 with (first | refine wpList_store_new rfl 43 _ _ rfl rfl w_29.heap.size (stA0 sd k2) rfl rfl _ (stA0 0 false) w_29 rfl rfl rfl (by kernel_rfl) (by kernel_rfl) ?_)
            go_wp2_with fail
            go_roundw
            case rel => exact ⟨2, by go_num, Or.inr (Or.inr ⟨rfl, rfl, rfl, rfl⟩), inv_30, t_30, r_30, l_30⟩
            case measure => simp [intOf]
          · skip
            clear l0 l1
            go_wp2_with (first | refine wpList_row_g rfl 40 _ rfl _ rfl _ _ _ _ ht Tryd.underlying40 rfl (by kernel_rfl) ?_)
            have t_39 := ht
            have inv_39 := iv
            refine (hSe _ inv_39).mono ?_; rintro e w_39 ⟨rfl, hb_39⟩
            have tc_39 := t_39.below hb_39 t_39.lt
            have invc_39 := inv_39.call hb_39
            clear t_39 inv_39 hb_39
            go_wp2_with fail
            go_ret
            exact ⟨rfl, invc_39.2⟩
    · have hch := fun w' (i : Inv w w') => check_any F L A n m _ l w' i.1 (hR.below i.2) i.2.size hm
      obtain ⟨h1, h2, h3, h4⟩ := tr_no he
      have hH : frH F L l c = 0 := by unfold frH; rw [if_neg he]
      have hC : frC F L l c = 0 := by unfold frC; rw [h1, h2, h3, h4]; rfl
      rw [hH, hC] at hFr; clear h1 h2 h3 h4 hH hC
      generalize yrV c = Y at *
      generalize yrE c = YE at *
      rcases atE_cases F L l c with h | ⟨h, hb⟩ | ⟨h, hb⟩
      · exact absurd h he
      · rw [h] at hFr
        rw [show tbE F L l = 0 by unfold tbE; rw [if_pos hb]] at hch
        clear he h
        go_enter Tryd.func10, Tryd.ntmps10
        go_wp2_with fail
        have t_1 := (Wd.Blk.new w 40 (tbA F L A n m))
        have inv_1 := (i0.alloc (.cells (tbA F L A n m) 40))
        refine (begins12_any _ inv_1.1).mono ?_; rintro e w_1 ⟨rfl, hb_1⟩
        have tc_1 := t_1.below hb_1 t_1.lt
        have invc_1 := inv_1.call hb_1
        clear t_1 inv_1 hb_1
        go_wp2_with (first | refine wpList_row_g rfl 40 _ rfl _ rfl _ _ _ _ tc_1 Tryd.underlying40 rfl (by kernel_rfl) ?_)
        have t_2 := tc_1
        have inv_2 := invc_1
        refine (hsm _).mono ?_; rintro e w_2 ⟨rfl, hb_2⟩
        have tc_2 := t_2.below hb_2 t_2.lt
        have invc_2 := inv_2.call hb_2
        clear t_2 inv_2 hb_2
        go_wp2_with (first | refine wpList_row_g rfl 40 _ rfl _ rfl _ _ _ _ tc_2 Tryd.underlying40 rfl (by kernel_rfl) ?_)
        have t_3 := tc_2
        have inv_3 := invc_2
        refine (hFr _ inv_3).mono ?_; rintro e w_3 ⟨rfl, hb_3⟩
        have tc_3 := t_3.below hb_3 t_3.lt
        have invc_3 := inv_3.call hb_3
        clear t_3 inv_3 hb_3
        go_wp2_with fail
        have t_4 := tc_3
        have inv_4 := invc_3
        refine (hY _).mono ?_; rintro e w_4 ⟨rfl, hb_4⟩
        have tc_4 := t_4.below hb_4 t_4.lt
        have invc_4 := inv_4.call hb_4
        clear t_4 inv_4 hb_4
        go_wp2_with (first | refine wpList_row_g rfl 40 _ rfl _ rfl _ _ _ _ tc_4 Tryd.underlying40 rfl (by kernel_rfl) ?_)
        have t_5 := tc_4
        have inv_5 := invc_4
        refine (hch _ inv_5).mono ?_; rintro e w_5 ⟨rfl, hb_5⟩
        have tc_5 := t_5.below hb_5 t_5.lt
        have invc_5 := inv_5.call hb_5
        clear t_5 inv_5 hb_5
        go_wp2_with fail
        go_ret
        exact ⟨rfl, invc_5.2⟩
      · rw [h] at hFr
        rw [show tbE F L l = 2 by unfold tbE; rw [hb]; rfl] at hch
        clear he h
        go_enter Tryd.func10, Tryd.ntmps10
        go_wp2_with fail
        have t_1 := (Wd.Blk.new w 40 (tbA F L A n m))
        have inv_1 := (i0.alloc (.cells (tbA F L A n m) 40))
        refine (begins12_any _ inv_1.1).mono ?_; rintro e w_1 ⟨rfl, hb_1⟩
        have tc_1 := t_1.below hb_1 t_1.lt
        have invc_1 := inv_1.call hb_1
        clear t_1 inv_1 hb_1
        go_wp2_with (first | refine wpList_row_g rfl 40 _ rfl _ rfl _ _ _ _ tc_1 Tryd.underlying40 rfl (by kernel_rfl) ?_)
        have t_2 := tc_1
        have inv_2 := invc_1
        refine (hsm _).mono ?_; rintro e w_2 ⟨rfl, hb_2⟩
        have tc_2 := t_2.below hb_2 t_2.lt
        have invc_2 := inv_2.call hb_2
        clear t_2 inv_2 hb_2
        go_wp2_with (first | refine wpList_row_g rfl 40 _ rfl _ rfl _ _ _ _ tc_2 Tryd.underlying40 rfl (by kernel_rfl) ?_)
        have t_3 := tc_2
        have inv_3 := invc_2
        refine (hFr _ inv_3).mono ?_; rintro e w_3 ⟨rfl, hb_3⟩
        have tc_3 := t_3.below hb_3 t_3.lt
        have invc_3 := inv_3.call hb_3
        clear t_3 inv_3 hb_3
        go_wp2_with fail
        have t_4 := tc_3
        have inv_4 := invc_3
        refine (hY _).mono ?_; rintro e w_4 ⟨rfl, hb_4⟩
        have tc_4 := t_4.below hb_4 t_4.lt
        have invc_4 := inv_4.call hb_4
        clear t_4 inv_4 hb_4
        go_wp2_with (first | refine wpList_row_g rfl 40 _ rfl _ rfl _ _ _ _ tc_4 Tryd.underlying40 rfl (by kernel_rfl) ?_)
        have t_5 := tc_4
        have inv_5 := invc_4
        refine (hch _ inv_5).mono ?_; rintro e w_5 ⟨rfl, hb_5⟩
        have tc_5 := t_5.below hb_5 t_5.lt
        have invc_5 := inv_5.call hb_5
        clear t_5 inv_5 hb_5
        go_wp2_with fail
        go_ret
        exact ⟨rfl, invc_5.2⟩
  · rw [if_neg hn] at hsm
    go_enter Tryd.func10, Tryd.ntmps10
    go_wp2_with fail
    have t_1 := (Wd.Blk.new w 40 (tbA F L A n m))
    have inv_1 := (i0.alloc (.cells (tbA F L A n m) 40))
    refine (begins12_any _ inv_1.1).mono ?_; rintro e w_1 ⟨rfl, hb_1⟩
    have tc_1 := t_1.below hb_1 t_1.lt
    have invc_1 := inv_1.call hb_1
    clear t_1 inv_1 hb_1
    go_wp2_with (first | refine wpList_row_g rfl 40 _ rfl _ rfl _ _ _ _ tc_1 Tryd.underlying40 rfl (by kernel_rfl) ?_)
    have t_2 := tc_1
    have inv_2 := invc_1
    refine (hsm _).mono ?_; rintro e w_2 ⟨rfl, hb_2⟩
    have tc_2 := t_2.below hb_2 t_2.lt
    have invc_2 := inv_2.call hb_2
    clear t_2 inv_2 hb_2
    go_wp2_with fail
    go_ret
    exact ⟨rfl, invc_2.2⟩
end Go.Proofs.YtefcjccapekjdaaDoor.Tb
