/-
  LOCAL: what the statements of stage 24 ask first (lives), walked.
-/
import Derived.Test.YtefcjccapekjdaaDoorTbE
namespace Go.Proofs.YtefcjccapekjdaaDoor.Tb
open Go.ChangeShapes Go.WideShapes Go.ChangeAt Go.RowKit
open Go.Proofs.YtefcjccapekjdaaDoor
open Go.Proofs.YtefcjccapekjdaaDoor.Wd
open Go.Proofs.YtefcjccapekjdaaDoor.Rec
open Go.Proofs.YtefcjccapekjdaaDoor.Yr
open Go.Proofs.YtefcjccapekjdaaDoor.Clk (yrV yrE)
open Go.Proofs.YtefcjccapekjdaaDoor.Civ (Tab Inv)
set_option linter.unusedVariables false
abbrev rcY : Rc := ⟨-60, 0, -60, ⟨0, 10, 0, 5, 3, 0, 0, 0⟩, ⟨0, 3, 0, 5, 2, 0, 0, 0⟩⟩
theorem rcY_bd : rcY.Bd := by
  refine ⟨by decide, by decide, by decide, ?_, ?_⟩ <;> exact ⟨by decide, by decide, by decide, by decide, by decide, by decide, by decide, by decide⟩
theorem l_to0 {g B : Nat} {w : World} (hT : Tab w) (hR : Recs w B (some ⟨g, 0, none⟩) 1 [rcY]) (hB : B ≤ w.heap.size) :
    Calls Tryd.prog 30 #[tbV 1999 1999 (some ⟨g, 0, none⟩) 1 1, .int .i64 922582800] w fun e w' => e = .returned (.tuple #[.int .i64 922590000, stateV 7200 true, .int .i64 0]) ∧ Below w.heap.size w w' := by
  have := to_any 1999 1999 (some ⟨g, 0, none⟩) 1 1 B [rcY] 922582800 w hT hR hB (by decide) (by decide)
  rwa [show toC 1999 1999 [rcY] 922582800 = 922590000 by decide +kernel, show tOff 1999 1999 [rcY] 922582800 = 7200 by decide +kernel, show tSum 1999 1999 [rcY] 922582800 = true by decide +kernel, show atE 1999 1999 [rcY] 922582800 = 0 by decide +kernel] at this
theorem l_fr0 {g B : Nat} {w : World} (hT : Tab w) (hR : Recs w B (some ⟨g, 0, none⟩) 1 [rcY]) (hB : B ≤ w.heap.size) :
    Calls Tryd.prog 32 #[tbV 1999 1999 (some ⟨g, 0, none⟩) 1 1, .int .i64 922590000] w fun e w' => e = .returned (.tuple #[.int .i64 922582800, .int .u8 1, .int .i64 0]) ∧ Below w.heap.size w w' := by
  have := from_any 1999 1999 (some ⟨g, 0, none⟩) 1 1 B [rcY] 922590000 w hT hR hB (by decide) (by decide)
  rwa [show frC 1999 1999 [rcY] 922590000 = 922582800 by decide +kernel, show frH 1999 1999 [rcY] 922590000 = 1 by decide +kernel, show atE 1999 1999 [rcY] 922590000 = 0 by decide +kernel] at this
theorem l_fr1 {g B : Nat} {w : World} (hT : Tab w) (hR : Recs w B (some ⟨g, 0, none⟩) 1 [rcY]) (hB : B ≤ w.heap.size) :
    Calls Tryd.prog 32 #[tbV 1999 1999 (some ⟨g, 0, none⟩) 1 1, .int .i64 922586400] w fun e w' => e = .returned (.tuple #[.int .i64 922582800, .int .u8 3, .int .i64 0]) ∧ Below w.heap.size w w' := by
  have := from_any 1999 1999 (some ⟨g, 0, none⟩) 1 1 B [rcY] 922586400 w hT hR hB (by decide) (by decide)
  rwa [show frC 1999 1999 [rcY] 922586400 = 922582800 by decide +kernel, show frH 1999 1999 [rcY] 922586400 = 3 by decide +kernel, show atE 1999 1999 [rcY] 922586400 = 0 by decide +kernel] at this
theorem l_fr2 {g B : Nat} {w : World} (hT : Tab w) (hR : Recs w B (some ⟨g, 0, none⟩) 1 [rcY]) (hB : B ≤ w.heap.size) :
    Calls Tryd.prog 32 #[tbV 1999 1999 (some ⟨g, 0, none⟩) 1 1, .int .i64 941335200] w fun e w' => e = .returned (.tuple #[.int .i64 941331600, .int .u8 2, .int .i64 0]) ∧ Below w.heap.size w w' := by
  have := from_any 1999 1999 (some ⟨g, 0, none⟩) 1 1 B [rcY] 941335200 w hT hR hB (by decide) (by decide)
  rwa [show frC 1999 1999 [rcY] 941335200 = 941331600 by decide +kernel, show frH 1999 1999 [rcY] 941335200 = 2 by decide +kernel, show atE 1999 1999 [rcY] 941335200 = 0 by decide +kernel] at this
theorem l_fr3 {g B : Nat} {w : World} (hT : Tab w) (hR : Recs w B (some ⟨g, 0, none⟩) 1 [rcY]) (hB : B ≤ w.heap.size) :
    Calls Tryd.prog 32 #[tbV 1999 1999 (some ⟨g, 0, none⟩) 1 1, .int .i64 1099511627776] w fun e w' => e = .returned (.tuple #[.int .i64 0, .int .u8 0, .int .i64 1]) ∧ Below w.heap.size w w' := by
  have := from_any 1999 1999 (some ⟨g, 0, none⟩) 1 1 B [rcY] 1099511627776 w hT hR hB (by decide) (by decide)
  rwa [show frC 1999 1999 [rcY] 1099511627776 = 0 by decide +kernel, show frH 1999 1999 [rcY] 1099511627776 = 0 by decide +kernel, show atE 1999 1999 [rcY] 1099511627776 = 1 by decide +kernel] at this
theorem l_se0 {g B : Nat} {w : World} (hT : Tab w) (hR : Recs w B (some ⟨g, 0, none⟩) 1 [rcY]) (hB : B ≤ w.heap.size) :
    Calls Tryd.prog 34 #[tbV 1999 1999 (some ⟨g, 0, none⟩) 1 1, .int .i64 941335200] w fun e w' => e = .returned (.tuple #[.int .i64 941328000, .bool true]) ∧ Below w.heap.size w w' := by
  have := second_any 1999 1999 (some ⟨g, 0, none⟩) 1 1 B [rcY] 941335200 w hT hR hB (by decide) (by decide)
  rwa [show seC 1999 1999 [rcY] 941335200 = 941328000 by decide +kernel, show seB 1999 1999 [rcY] 941335200 = true by decide +kernel] at this
theorem l_se1 {g B : Nat} {w : World} (hT : Tab w) (hR : Recs w B (some ⟨g, 0, none⟩) 1 [rcY]) (hB : B ≤ w.heap.size) :
    Calls Tryd.prog 34 #[tbV 1999 1999 (some ⟨g, 0, none⟩) 1 1, .int .i64 922590000] w fun e w' => e = .returned (.tuple #[.int .i64 0, .bool false]) ∧ Below w.heap.size w w' := by
  have := second_any 1999 1999 (some ⟨g, 0, none⟩) 1 1 B [rcY] 922590000 w hT hR hB (by decide) (by decide)
  rwa [show seC 1999 1999 [rcY] 922590000 = 0 by decide +kernel, show seB 1999 1999 [rcY] 922590000 = false by decide +kernel] at this
set_option maxRecDepth 20000 in
set_option maxHeartbeats 8000000 in
attribute [-go_sem] run_eql_struct in
theorem lives24_any (w : World) (hT : Tab w) :
    Calls Tryd.prog 29 #[] w fun e w' => e = .returned (.bool true) ∧ Below w.heap.size w w' := by
  have i0 := Civ.Inv.start hT
  go_enter Tryd.func29, Tryd.ntmps29
  go_upto_region 2 with (first | refine wpList_store_new rfl 26 _ _ rfl rfl w.heap.size rcY.A rfl rfl _ z19 w rfl rfl rfl (by kernel_rfl) (by kernel_rfl) ?_)
  have r0 := Wd.Blk.new w 26 rcY.A
  have r_1 := (((Wd.Blk.new w 26 rcY.A).alloc (.cells rcY.A 26)).alloc (.cells (tbA 1999 1999 (some ⟨w.heap.size + 1, 0, none⟩) 1 1) 40))
  have s_1 := ((blk_at (w.alloc (.cells rcY.A 26)) 26 rcY.A (sz1 _ _ rfl)).alloc (.cells (tbA 1999 1999 (some ⟨w.heap.size + 1, 0, none⟩) 1 1) 40))
  have t_1 := (blk_at ((w.alloc (.cells rcY.A 26)).alloc (.cells rcY.A 26)) 40 (tbA 1999 1999 (some ⟨w.heap.size + 1, 0, none⟩) 1 1) (sz1 _ _ (sz1 _ _ rfl)))
  have inv_1 := (((i0.alloc (.cells rcY.A 26)).alloc (.cells rcY.A 26)).alloc (.cells (tbA 1999 1999 (some ⟨w.heap.size + 1, 0, none⟩) 1 1) 40))
  go_wp2_with (first | refine wpList_row_g rfl 26 _ rfl _ rfl _ _ _ _ r0 Tryd.underlying26 rfl (by kernel_rfl) ?_ | refine wpList_row_g rfl 40 _ rfl _ rfl _ _ _ _ t_1 Tryd.underlying40 rfl (by kernel_rfl) ?_)
  clear r0 r_1
  have hR := recs_one s_1 rcY_bd
  have hbW := inv_1.2
  have j0 := Civ.Inv.start inv_1.1
  clear inv_1 i0
  generalize (((w.alloc (.cells rcY.A 26)).alloc (.cells rcY.A 26)).alloc (.cells (tbA 1999 1999 (some ⟨w.heap.size + 1, 0, none⟩) 1 1) 40)) = WW at *
  have t_2 := t_1
  have inv_2 := j0
  refine (l_to0 inv_2.1 (hR.below inv_2.2) inv_2.2.size).mono ?_; rintro e w_2 ⟨rfl, hb_2⟩
  have tc_2 := t_2.below hb_2 t_2.lt
  have invc_2 := inv_2.call hb_2
  clear t_2 inv_2 hb_2
  have t_3 := (tc_2.alloc (.cells (stA0 7200 true) 43))
  have x_3 := (Wd.Blk.new w_2 43 (stA0 7200 true))
  have inv_3 := (invc_2.alloc (.cells (stA0 7200 true) 43))
  go_wp2_with (first | refine wpList_store_new rfl 43 _ _ rfl rfl w_2.heap.size (stA0 7200 true) rfl rfl _ (stA0 0 false) w_2 rfl rfl rfl (by kernel_rfl) (by kernel_rfl) ?_ | refine wpList_row_g rfl 40 _ rfl _ rfl _ _ _ _ t_3 Tryd.underlying40 rfl (by kernel_rfl) ?_)
  have t_4 := t_3
  have x_4 := x_3
  have inv_4 := inv_3
  refine (l_fr0 inv_4.1 (hR.below inv_4.2) inv_4.2.size).mono ?_; rintro e w_4 ⟨rfl, hb_4⟩
  have tc_4 := t_4.below hb_4 t_4.lt
  have xc_4 := x_4.below hb_4 x_4.lt
  have invc_4 := inv_4.call hb_4
  clear t_4 x_4 inv_4 hb_4
  go_wp2_with (first | refine wpList_row_g rfl 40 _ rfl _ rfl _ _ _ _ tc_4 Tryd.underlying40 rfl (by kernel_rfl) ?_)
  have t_5 := tc_4
  have x_5 := xc_4
  have inv_5 := invc_4
  refine (l_fr1 inv_5.1 (hR.below inv_5.2) inv_5.2.size).mono ?_; rintro e w_5 ⟨rfl, hb_5⟩
  have tc_5 := t_5.below hb_5 t_5.lt
  have xc_5 := x_5.below hb_5 x_5.lt
  have invc_5 := inv_5.call hb_5
  clear t_5 x_5 inv_5 hb_5
  go_wp2_with (first | refine wpList_row_g rfl 40 _ rfl _ rfl _ _ _ _ tc_5 Tryd.underlying40 rfl (by kernel_rfl) ?_)
  have t_6 := tc_5
  have x_6 := xc_5
  have inv_6 := invc_5
  refine (l_fr2 inv_6.1 (hR.below inv_6.2) inv_6.2.size).mono ?_; rintro e w_6 ⟨rfl, hb_6⟩
  have tc_6 := t_6.below hb_6 t_6.lt
  have xc_6 := x_6.below hb_6 x_6.lt
  have invc_6 := inv_6.call hb_6
  clear t_6 x_6 inv_6 hb_6
  go_wp2_with (first | refine wpList_row_g rfl 40 _ rfl _ rfl _ _ _ _ tc_6 Tryd.underlying40 rfl (by kernel_rfl) ?_)
  have t_7 := tc_6
  have x_7 := xc_6
  have inv_7 := invc_6
  refine (l_se0 inv_7.1 (hR.below inv_7.2) inv_7.2.size).mono ?_; rintro e w_7 ⟨rfl, hb_7⟩
  have tc_7 := t_7.below hb_7 t_7.lt
  have xc_7 := x_7.below hb_7 x_7.lt
  have invc_7 := inv_7.call hb_7
  clear t_7 x_7 inv_7 hb_7
  go_wp2_with (first | refine wpList_row_g rfl 40 _ rfl _ rfl _ _ _ _ tc_7 Tryd.underlying40 rfl (by kernel_rfl) ?_)
  have t_8 := tc_7
  have x_8 := xc_7
  have inv_8 := invc_7
  refine (l_se1 inv_8.1 (hR.below inv_8.2) inv_8.2.size).mono ?_; rintro e w_8 ⟨rfl, hb_8⟩
  have tc_8 := t_8.below hb_8 t_8.lt
  have xc_8 := x_8.below hb_8 x_8.lt
  have invc_8 := inv_8.call hb_8
  clear t_8 x_8 inv_8 hb_8
  go_wp2_with (first | refine wpList_row_g rfl 40 _ rfl _ rfl _ _ _ _ tc_8 Tryd.underlying40 rfl (by kernel_rfl) ?_)
  have t_9 := tc_8
  have x_9 := xc_8
  have inv_9 := invc_8
  refine (l_fr3 inv_9.1 (hR.below inv_9.2) inv_9.2.size).mono ?_; rintro e w_9 ⟨rfl, hb_9⟩
  have tc_9 := t_9.below hb_9 t_9.lt
  have xc_9 := x_9.below hb_9 x_9.lt
  have invc_9 := inv_9.call hb_9
  clear t_9 x_9 inv_9 hb_9
  have hq := eq_sta 7200 7200 true true
  rw [show eqT 7200 true 7200 true = true by decide] at hq
  go_wp2_with (first | refine wpList_row_g rfl 43 _ rfl _ rfl _ _ _ _ xc_9 Tryd.underlying43 rfl (by kernel_rfl) ?_)
  go_ret
  exact ⟨rfl, hbW.trans (invc_9.2.mono hbW.size)⟩
end Go.Proofs.YtefcjccapekjdaaDoor.Tb
