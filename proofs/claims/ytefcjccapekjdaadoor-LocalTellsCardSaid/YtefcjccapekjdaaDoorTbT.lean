/-
  LOCAL: LocalTells walked: the program's clocks show what the reference's do.
-/
import Derived.Test.YtefcjccapekjdaaDoorTbV
import Derived.Test.YtefcjccapekjdaaDoorRfQ
namespace Go.Proofs.YtefcjccapekjdaaDoor.Tb
open Go.ChangeShapes Go.WideShapes Go.ChangeAt Go.RowKit
open Go.Proofs.YtefcjccapekjdaaDoor
open Go.Proofs.YtefcjccapekjdaaDoor.Wd
open Go.Proofs.YtefcjccapekjdaaDoor.Rec
open Go.Proofs.YtefcjccapekjdaaDoor.Yr
open Go.Proofs.YtefcjccapekjdaaDoor.Clk (yrV yrE)
open Go.Proofs.YtefcjccapekjdaaDoor.Civ (Tab Inv)
set_option linter.unusedVariables false
set_option maxRecDepth 20000 in
set_option maxHeartbeats 8000000 in
attribute [-go_sem] run_eql_struct in
theorem tells_any (F L : Int) (A : Option Addr) (n m : Nat) (l : List Rc) (s c : Int) (w : World) (hT : Tab w) (hR : Recs w w.heap.size A n l) (hm : n ≤ maxLen) (hs : -9223372036854775808 ≤ s ∧ s ≤ 9223372036854775807) (hc : -9223372036854775808 ≤ c ∧ c ≤ 9223372036854775807) :
    Calls Tryd.prog 4 #[tbV F L A n m, .int .i64 s, .int .i64 c] w fun e w' => e = .returned (.bool true) ∧ Below w.heap.size w w' := by
  have i0 := Civ.Inv.start hT
  have hsm := fun w => small_any F L A n m w hm
  by_cases hn : n ≤ 60
  · simp only [if_pos hn] at hsm
    have p1 := fun w' (h : Civ.Inv w w') => to_any F L A n m w.heap.size l s w' h.1 (hR.below h.2) h.2.size hm hs
    have q1 := fun w' (h : Civ.Inv w w') => Rf.rto_any F L A n m w.heap.size l s w' h.1 (hR.below h.2) h.2.size hm hs
    have p2 := fun w' (h : Civ.Inv w w') => from_any F L A n m w.heap.size l c w' h.1 (hR.below h.2) h.2.size hm hc
    have q2 := fun w' (h : Civ.Inv w w') => Rf.rfrom_any F L A n m w.heap.size l c w' h.1 (hR.below h.2) h.2.size hm hc
    have p3 := fun w' (h : Civ.Inv w w') => second_any F L A n m w.heap.size l c w' h.1 (hR.below h.2) h.2.size hm hc
    have q3 := fun w' (h : Civ.Inv w w') => Rf.rsecond_any F L A n m w.heap.size l c w' h.1 (hR.below h.2) h.2.size hm hc
    clear hR
    generalize toC F L l s = a1 at *
    generalize tOff F L l s = a2 at *
    generalize tSum F L l s = a3 at *
    generalize atE F L l s = a4 at *
    generalize frC F L l c = b1 at *
    generalize frH F L l c = b2 at *
    generalize atE F L l c = b3 at *
    generalize seC F L l c = c1 at *
    generalize seB F L l c = c2 at *
    have he := fun w => eq_sta a2 a2 a3 a3 w
    simp only [show eqT a2 a3 a2 a3 = true by unfold eqT; simp] at he
    go_enter Tryd.func4, Tryd.ntmps4
    go_wp2_with (first | refine wpList_row_g rfl 40 _ rfl _ rfl _ _ _ _ (Wd.Blk.new w 40 (tbA F L A n m)) Tryd.underlying40 rfl (by kernel_rfl) ?_)
    have x_1 := (Wd.Blk.new w 40 (tbA F L A n m))
    have inv_1 := (i0.alloc (.cells (tbA F L A n m) 40))
    refine (hsm _).mono ?_; rintro e w_1 ⟨rfl, hb_1⟩
    have xc_1 := x_1.below hb_1 x_1.lt
    have invc_1 := inv_1.call hb_1
    clear x_1 inv_1 hb_1
    go_wp2_with (first | refine wpList_row_g rfl 40 _ rfl _ rfl _ _ _ _ xc_1 Tryd.underlying40 rfl (by kernel_rfl) ?_)
    have x_2 := xc_1
    have inv_2 := invc_1
    refine (p1 _ inv_2).mono ?_; rintro e w_2 ⟨rfl, hb_2⟩
    have xc_2 := x_2.below hb_2 x_2.lt
    have invc_2 := inv_2.call hb_2
    clear x_2 inv_2 hb_2
    go_wp2_with (first | refine wpList_store_new rfl 43 _ _ rfl rfl w_2.heap.size (stA0 a2 a3) rfl rfl _ (stA0 0 false) w_2 rfl rfl rfl (by kernel_rfl) (by kernel_rfl) ?_ | refine wpList_row_g rfl 40 _ rfl _ rfl _ _ _ _ (xc_2.alloc (.cells (stA0 a2 a3) 43)) Tryd.underlying40 rfl (by kernel_rfl) ?_)
    have x_3 := (xc_2.alloc (.cells (stA0 a2 a3) 43))
    have y_3 := (Wd.Blk.new w_2 43 (stA0 a2 a3))
    have inv_3 := (invc_2.alloc (.cells (stA0 a2 a3) 43))
    refine (q1 _ inv_3).mono ?_; rintro e w_3 ⟨rfl, hb_3⟩
    have xc_3 := x_3.below hb_3 x_3.lt
    have yc_3 := y_3.below hb_3 y_3.lt
    have invc_3 := inv_3.call hb_3
    clear x_3 y_3 inv_3 hb_3
    go_wp2_with (first | refine wpList_store_new rfl 43 _ _ rfl rfl w_3.heap.size (stA0 a2 a3) rfl rfl _ (stA0 0 false) w_3 rfl rfl rfl (by kernel_rfl) (by kernel_rfl) ?_ | refine wpList_row_g rfl 40 _ rfl _ rfl _ _ _ _ (xc_3.alloc (.cells (stA0 a2 a3) 43)) Tryd.underlying40 rfl (by kernel_rfl) ?_)
    have x_4 := (xc_3.alloc (.cells (stA0 a2 a3) 43))
    have y_4 := (yc_3.alloc (.cells (stA0 a2 a3) 43))
    have z_4 := (Wd.Blk.new w_3 43 (stA0 a2 a3))
    have inv_4 := (invc_3.alloc (.cells (stA0 a2 a3) 43))
    refine (p2 _ inv_4).mono ?_; rintro e w_4 ⟨rfl, hb_4⟩
    have xc_4 := x_4.below hb_4 x_4.lt
    have yc_4 := y_4.below hb_4 y_4.lt
    have zc_4 := z_4.below hb_4 z_4.lt
    have invc_4 := inv_4.call hb_4
    clear x_4 y_4 z_4 inv_4 hb_4
    go_wp2_with (first | refine wpList_row_g rfl 40 _ rfl _ rfl _ _ _ _ xc_4 Tryd.underlying40 rfl (by kernel_rfl) ?_)
    have x_5 := xc_4
    have y_5 := yc_4
    have z_5 := zc_4
    have inv_5 := invc_4
    refine (q2 _ inv_5).mono ?_; rintro e w_5 ⟨rfl, hb_5⟩
    have xc_5 := x_5.below hb_5 x_5.lt
    have yc_5 := y_5.below hb_5 y_5.lt
    have zc_5 := z_5.below hb_5 z_5.lt
    have invc_5 := inv_5.call hb_5
    clear x_5 y_5 z_5 inv_5 hb_5
    go_wp2_with (first | refine wpList_row_g rfl 40 _ rfl _ rfl _ _ _ _ xc_5 Tryd.underlying40 rfl (by kernel_rfl) ?_)
    have x_6 := xc_5
    have y_6 := yc_5
    have z_6 := zc_5
    have inv_6 := invc_5
    refine (p3 _ inv_6).mono ?_; rintro e w_6 ⟨rfl, hb_6⟩
    have xc_6 := x_6.below hb_6 x_6.lt
    have yc_6 := y_6.below hb_6 y_6.lt
    have zc_6 := z_6.below hb_6 z_6.lt
    have invc_6 := inv_6.call hb_6
    clear x_6 y_6 z_6 inv_6 hb_6
    go_wp2_with (first | refine wpList_row_g rfl 40 _ rfl _ rfl _ _ _ _ xc_6 Tryd.underlying40 rfl (by kernel_rfl) ?_)
    have x_7 := xc_6
    have y_7 := yc_6
    have z_7 := zc_6
    have inv_7 := invc_6
    refine (q3 _ inv_7).mono ?_; rintro e w_7 ⟨rfl, hb_7⟩
    have xc_7 := x_7.below hb_7 x_7.lt
    have yc_7 := y_7.below hb_7 y_7.lt
    have zc_7 := z_7.below hb_7 z_7.lt
    have invc_7 := inv_7.call hb_7
    clear x_7 y_7 z_7 inv_7 hb_7
    go_wp2_with fail
    have y_8 := yc_7
    have z_8 := zc_7
    have inv_8 := invc_7
    refine (lives24_any _ inv_8.1).mono ?_; rintro e w_8 ⟨rfl, hb_8⟩
    have yc_8 := y_8.below hb_8 y_8.lt
    have zc_8 := z_8.below hb_8 z_8.lt
    have invc_8 := inv_8.call hb_8
    clear y_8 z_8 inv_8 hb_8
    go_wp2_with (first | refine wpList_row_g rfl 43 _ rfl _ rfl _ _ _ _ yc_8 Tryd.underlying43 rfl (by kernel_rfl) ?_ | refine wpList_row_g rfl 43 _ rfl _ rfl _ _ _ _ zc_8 Tryd.underlying43 rfl (by kernel_rfl) ?_)
    go_ret
    exact ⟨rfl, invc_8.2⟩
  · simp only [if_neg hn] at hsm
    clear hR
    go_enter Tryd.func4, Tryd.ntmps4
    go_wp2_with (first | refine wpList_row_g rfl 40 _ rfl _ rfl _ _ _ _ (Wd.Blk.new w 40 (tbA F L A n m)) Tryd.underlying40 rfl (by kernel_rfl) ?_)
    have x_1 := (Wd.Blk.new w 40 (tbA F L A n m))
    have inv_1 := (i0.alloc (.cells (tbA F L A n m) 40))
    refine (hsm _).mono ?_; rintro e w_1 ⟨rfl, hb_1⟩
    have xc_1 := x_1.below hb_1 x_1.lt
    have invc_1 := inv_1.call hb_1
    clear x_1 inv_1 hb_1
    go_wp2_with fail
    have inv_2 := invc_1
    refine (lives24_any _ inv_2.1).mono ?_; rintro e w_2 ⟨rfl, hb_2⟩
    have invc_2 := inv_2.call hb_2
    clear inv_2 hb_2
    go_wp2_with fail
    go_ret
    exact ⟨rfl, invc_2.2⟩
end Go.Proofs.YtefcjccapekjdaaDoor.Tb
