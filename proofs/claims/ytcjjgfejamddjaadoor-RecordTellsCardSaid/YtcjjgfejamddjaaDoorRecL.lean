/-
  RECORDS: 'lives' of the statements of records, walked.
-/
import Derived.Test.YtcjjgfejamddjaaDoorRecE
namespace Go.Proofs.YtcjjgfejamddjaaDoor.Rec
open Go.ChangeShapes Go.WideShapes Go.ChangeAt Go.RowKit
open Go.Proofs.YtcjjgfejamddjaaDoor
open Go.Proofs.YtcjjgfejamddjaaDoor.Wd
open Go.Proofs.YtcjjgfejamddjaaDoor.Civ (Tab Inv)
set_option linter.unusedVariables false
theorem make_at {x y : Int} {a b : St} {w : World} (hT : Tab w) (Ba : a.Bd) (Bb : b.Bd) (hx : -9223372036854775808 ≤ x ∧ x ≤ 9223372036854775807) (hy : -9223372036854775808 ≤ y ∧ y ≤ 9223372036854775807) (h : mkOk x y a b = true) {c e : Int} (h1 : -(x / 60) = c) (h2 : (x - y) / 60 = e) :
    Calls Tryd.prog 32 #[.int .i64 x, .int .i64 y, .agg (sA a), .agg (sA b)] w fun r w' => r = .returned (.tuple #[rcV c 0 e a b, .int .i64 0]) ∧ Below w.heap.size w w' := by
  have := make_any x y a b w hT Ba Bb hx hy
  have ho : (okO x && okO y) = true := by unfold mkOk at h; rw [Bool.and_eq_true] at h; exact h.1
  have hr : rcOk (-(x / 60)) 0 ((x - y) / 60) a b = true := by unfold mkOk at h; rw [Bool.and_eq_true] at h; exact h.2
  rw [show mkV x y a b = rcV c 0 e a b by unfold mkV; rw [if_pos h, h1, h2], show mkE x y a b = 0 by unfold mkE; rw [if_pos ho, if_pos hr]] at this
  exact this
theorem make_no {x y : Int} {a b : St} {w : World} (hT : Tab w) (Ba : a.Bd) (Bb : b.Bd) (hx : -9223372036854775808 ≤ x ∧ x ≤ 9223372036854775807) (hy : -9223372036854775808 ≤ y ∧ y ≤ 9223372036854775807) (h : mkOk x y a b = false) {e0 : Int} (h1 : mkE x y a b = e0) :
    Calls Tryd.prog 32 #[.int .i64 x, .int .i64 y, .agg (sA a), .agg (sA b)] w fun r w' => r = .returned (.tuple #[rcV 0 0 0 St.nil St.nil, .int .i64 e0]) ∧ Below w.heap.size w w' := by
  have := make_any x y a b w hT Ba Bb hx hy
  rw [show mkV x y a b = rcV 0 0 0 St.nil St.nil by unfold mkV; rw [h]; rfl, h1] at this
  exact this
theorem plV_no {z : Int} (h : okO z = false) : plV z = rcV 0 0 0 St.nil St.nil := by unfold plV; rw [h]; rfl
theorem plV_yes {z : Int} (h : okO z = true) {c : Int} (hc : -(z / 60) = c) : plV z = rcV c 0 0 St.nil St.nil := by unfold plV; rw [if_pos h, hc]
theorem plain_at (z : Int) {w : World} {v : Value} (h : plV z = v) {e0 : Int} (h1 : plE z = e0) :
    Calls Tryd.prog 34 #[.int .i64 z] w fun r w' => r = .returned (.tuple #[v, .int .i64 e0]) ∧ Below w.heap.size w w' := by
  have := plain_any z w; rwa [h, h1] at this
abbrev lA : St := ⟨0, 10, 0, 5, 3, 0, 0, 0⟩
abbrev lB : St := ⟨0, 3, 0, 5, 2, 0, 0, 0⟩
theorem bd_A : lA.Bd := Stp.bd_lit (by decide)
theorem bd_B : lB.Bd := Stp.bd_lit (by decide)
theorem bd_N : St.nil.Bd := Stp.bd_lit (by decide)
abbrev rX : Array Value := #[.int .i32 (-60), .int .i32 (0), .int .i32 (-60), .int .u16 0, .int .u16 10, .int .u16 0, .int .u16 5, .int .u16 3, .int .u16 0, .int .u16 0, .int .u16 0, .int .u16 0, .int .u16 3, .int .u16 0, .int .u16 5, .int .u16 2, .int .u16 0, .int .u16 0, .int .u16 0]
abbrev rN : Array Value := #[.int .i32 (0), .int .i32 (0), .int .i32 (0), .int .u16 0, .int .u16 0, .int .u16 0, .int .u16 0, .int .u16 0, .int .u16 0, .int .u16 0, .int .u16 0, .int .u16 0, .int .u16 0, .int .u16 0, .int .u16 0, .int .u16 0, .int .u16 0, .int .u16 0, .int .u16 0]
abbrev rP : Array Value := #[.int .i32 (210), .int .i32 (0), .int .i32 (0), .int .u16 0, .int .u16 0, .int .u16 0, .int .u16 0, .int .u16 0, .int .u16 0, .int .u16 0, .int .u16 0, .int .u16 0, .int .u16 0, .int .u16 0, .int .u16 0, .int .u16 0, .int .u16 0, .int .u16 0, .int .u16 0]
def litL : List UInt8 := rcB (-60) 0 (-60) lA lB
abbrev litR : ByteArray := ⟨#[196, 255, 255, 255, 0, 0, 0, 0, 196, 255, 255, 255, 0, 0, 10, 0, 0, 0, 5, 0, 3, 0, 0, 0, 0, 0, 0, 0, 0, 0, 3, 0, 0, 0, 5, 0, 2, 0, 0, 0, 0, 0, 0, 0]⟩
theorem bd_lit {w : World} : RBd (-60) 0 (-60) lA lB := ⟨by decide, by decide, by decide, bd_A, bd_B⟩
theorem bytes_lit (w : World) :
    Calls Tryd.prog 38 #[.agg rX] w fun r w' => r = .returned (.string litR) ∧ Below w.heap.size w w' := by
  have := bytes_any (-60) 0 (-60) lA lB w (bd_lit (w := w))
  rw [show (rcB (-60) 0 (-60) lA lB).toArray = litR.data by decide +kernel] at this
  exact this
theorem of_litR {w : World} (hT : Tab w) :
    Calls Tryd.prog 30 #[.string litR] w fun r w' => r = .returned (.tuple #[.agg rX, .int .i64 0]) ∧ Below w.heap.size w w' := by
  have := of_any litR w hT
  have ho : oOk litR = true := by decide +kernel
  have e0 : oB litR 0 = -60 := by decide +kernel
  have e1 : oB litR 1 = 0 := by decide +kernel
  have e2 : oB litR 2 = -60 := by decide +kernel
  have e3 : oS litR 0 = lA := eqS_iff.1 (by decide +kernel)
  have e4 : oS litR 1 = lB := eqS_iff.1 (by decide +kernel)
  rw [show oV litR = .agg rX by unfold oV; rw [if_pos ho, e0, e1, e2, e3, e4], show oE litR = 0 by unfold oE; rw [if_pos ho]] at this
  exact this
theorem of_none {w : World} :
    Calls Tryd.prog 30 #[.string ⟨#[]⟩] w fun r w' => r = .returned (.tuple #[.agg rN, .int .i64 11]) ∧ Below w.heap.size w w' := by
  have := of_short ⟨#[]⟩ w (by decide)
  rw [(of_bad (b := ⟨#[]⟩) (by decide)).1, (of_bad (b := ⟨#[]⟩) (by decide)).2] at this
  exact this
theorem chk_at {b c d : Int} {p q : St} {w : World} (hT : Tab w) (B : RBd b c d p q) (h : rcOk b c d p q = true) :
    Calls Tryd.prog 36 #[rcV b c d p q] w fun e w' => e = .returned (.int .i64 0) ∧ Below w.heap.size w w' := by
  have := chk_any b c d p q w hT B
  rwa [show rcE b c d p q = 0 by unfold rcE; rw [if_pos h]] at this
theorem chk_no {b c d : Int} {p q : St} {w : World} (hT : Tab w) (B : RBd b c d p q) (h : rcOk b c d p q = false) :
    Calls Tryd.prog 36 #[rcV b c d p q] w fun e w' => e = .returned (.int .i64 2) ∧ Below w.heap.size w w' := by
  have := chk_any b c d p q w hT B
  rwa [show rcE b c d p q = 2 by unfold rcE; rw [h]; rfl] at this
theorem offs_lit (w : World) :
    Calls Tryd.prog 28 #[.agg rX] w fun r w' => r = .returned (.tuple #[.int .i64 3600, .int .i64 7200]) ∧ Below w.heap.size w w' :=
  offs_any (-60) 0 (-60) lA lB w (bd_lit (w := w))
set_option maxRecDepth 100000 in
set_option maxHeartbeats 8000000 in
attribute [-go_sem] run_eql_struct in
theorem lives_any (w : World) (hT : Tab w) :
    Calls Tryd.prog 27 #[] w fun e w' => e = .returned (.bool true) ∧ Below w.heap.size w w' := by
  have i0 := Civ.Inv.start hT
  go_enter Tryd.func27, Tryd.ntmps27
  go_wp2_with fail
  have a_1 := ((Wd.Blk.new w 41 #[.int .u16 0, .int .u16 10, .int .u16 0, .int .u16 5, .int .u16 3, .int .u16 0, .int .u16 0, .int .u16 0]).alloc (.cells #[.int .u16 0, .int .u16 3, .int .u16 0, .int .u16 5, .int .u16 2, .int .u16 0, .int .u16 0, .int .u16 0] 41))
  have b_1 := (blk_at (w.alloc (.cells #[.int .u16 0, .int .u16 10, .int .u16 0, .int .u16 5, .int .u16 3, .int .u16 0, .int .u16 0, .int .u16 0] 41)) 41 #[.int .u16 0, .int .u16 3, .int .u16 0, .int .u16 5, .int .u16 2, .int .u16 0, .int .u16 0, .int .u16 0] (sz1 _ _ rfl))
  have inv_1 := ((i0.alloc (.cells #[.int .u16 0, .int .u16 10, .int .u16 0, .int .u16 5, .int .u16 3, .int .u16 0, .int .u16 0, .int .u16 0] 41)).alloc (.cells #[.int .u16 0, .int .u16 3, .int .u16 0, .int .u16 5, .int .u16 2, .int .u16 0, .int .u16 0, .int .u16 0] 41))
  refine (make_at (x := 3600) (y := 7200) (a := lA) (b := lB) inv_1.1 bd_A bd_B (by decide) (by decide) (by decide +kernel) (c := -60) (e := -60) (by decide) (by decide)).mono ?_; rintro e w_1 ⟨rfl, hb_1⟩
  have ac_1 := a_1.below hb_1 a_1.lt
  have bc_1 := b_1.below hb_1 b_1.lt
  have invc_1 := inv_1.call hb_1
  clear a_1 b_1 inv_1 hb_1
  go_wp2_with (first | refine wpList_store_new rfl 53 _ _ rfl rfl w_1.heap.size rX rfl rfl _ z19 w_1 rfl rfl rfl (by kernel_rfl) (by kernel_rfl) ?_ | refine wpList_row_g rfl 53 _ rfl _ rfl _ _ _ _ (Wd.Blk.new w_1 53 rX) Tryd.underlying53 rfl (by kernel_rfl) ?_)
  have a_2 := (ac_1.alloc (.cells rX 53))
  have b_2 := (bc_1.alloc (.cells rX 53))
  have r_2 := (Wd.Blk.new w_1 53 rX)
  have inv_2 := (invc_1.alloc (.cells rX 53))
  refine (bytes_lit _).mono ?_; rintro e w_2 ⟨rfl, hb_2⟩
  have ac_2 := a_2.below hb_2 a_2.lt
  have bc_2 := b_2.below hb_2 b_2.lt
  have rc_2 := r_2.below hb_2 r_2.lt
  have invc_2 := inv_2.call hb_2
  clear a_2 b_2 r_2 inv_2 hb_2
  go_wp2_with fail
  have a_3 := ac_2
  have b_3 := bc_2
  have r_3 := rc_2
  have inv_3 := invc_2
  refine (of_litR inv_3.1).mono ?_; rintro e w_3 ⟨rfl, hb_3⟩
  have ac_3 := a_3.below hb_3 a_3.lt
  have bc_3 := b_3.below hb_3 b_3.lt
  have rc_3 := r_3.below hb_3 r_3.lt
  have invc_3 := inv_3.call hb_3
  clear a_3 b_3 r_3 inv_3 hb_3
  have a_4 := (ac_3.alloc (.cells rX 53))
  have b_4 := (bc_3.alloc (.cells rX 53))
  have r_4 := (rc_3.alloc (.cells rX 53))
  have x_4 := (Wd.Blk.new w_3 53 rX)
  have inv_4 := (invc_3.alloc (.cells rX 53))
  go_wp2_with (first | refine wpList_store_new rfl 53 _ _ rfl rfl w_3.heap.size rX rfl rfl _ z19 w_3 rfl rfl rfl (by kernel_rfl) (by kernel_rfl) ?_ | refine wpList_row_g rfl 53 _ rfl _ rfl _ _ _ _ r_4 Tryd.underlying53 rfl (by kernel_rfl) ?_)
  have a_5 := a_4
  have b_5 := b_4
  have r_5 := r_4
  have x_5 := x_4
  have inv_5 := inv_4
  refine (offs_lit _).mono ?_; rintro e w_5 ⟨rfl, hb_5⟩
  have ac_5 := a_5.below hb_5 a_5.lt
  have bc_5 := b_5.below hb_5 b_5.lt
  have rc_5 := r_5.below hb_5 r_5.lt
  have xc_5 := x_5.below hb_5 x_5.lt
  have invc_5 := inv_5.call hb_5
  clear a_5 b_5 r_5 x_5 inv_5 hb_5
  have a_6 := ac_5
  have b_6 := bc_5
  have r_6 := rc_5
  have x_6 := xc_5
  have inv_6 := invc_5
  go_wp2_with (refine wpList_row_g rfl 41 _ rfl _ rfl _ _ _ _ a_6 Tryd.underlying41 rfl (by kernel_rfl) ?_)
  have a_7 := a_6
  have b_7 := b_6
  have r_7 := r_6
  have x_7 := x_6
  have inv_7 := inv_6
  refine (make_no (x := 3600) (y := 7200) (a := lA) (b := St.nil) inv_7.1 bd_A bd_N (by decide) (by decide) (by decide +kernel) (e0 := 2) (by decide +kernel)).mono ?_; rintro e w_7 ⟨rfl, hb_7⟩
  have ac_7 := a_7.below hb_7 a_7.lt
  have bc_7 := b_7.below hb_7 b_7.lt
  have rc_7 := r_7.below hb_7 r_7.lt
  have xc_7 := x_7.below hb_7 x_7.lt
  have invc_7 := inv_7.call hb_7
  clear a_7 b_7 r_7 x_7 inv_7 hb_7
  go_wp2_with (first | refine wpList_store_new rfl 53 _ _ rfl rfl w_7.heap.size rN rfl rfl _ z19 w_7 rfl rfl rfl (by kernel_rfl) (by kernel_rfl) ?_)
  have a_8 := (ac_7.alloc (.cells rN 53))
  have b_8 := (bc_7.alloc (.cells rN 53))
  have r_8 := (rc_7.alloc (.cells rN 53))
  have x_8 := (xc_7.alloc (.cells rN 53))
  have inv_8 := (invc_7.alloc (.cells rN 53))
  refine (plain_at 30 (plV_no (by decide)) (e0 := 1) (by decide +kernel)).mono ?_; rintro e w_8 ⟨rfl, hb_8⟩
  have ac_8 := a_8.below hb_8 a_8.lt
  have bc_8 := b_8.below hb_8 b_8.lt
  have rc_8 := r_8.below hb_8 r_8.lt
  have xc_8 := x_8.below hb_8 x_8.lt
  have invc_8 := inv_8.call hb_8
  clear a_8 b_8 r_8 x_8 inv_8 hb_8
  go_wp2_with (first | refine wpList_store_new rfl 53 _ _ rfl rfl w_8.heap.size rN rfl rfl _ z19 w_8 rfl rfl rfl (by kernel_rfl) (by kernel_rfl) ?_)
  have a_9 := (ac_8.alloc (.cells rN 53))
  have b_9 := (bc_8.alloc (.cells rN 53))
  have r_9 := (rc_8.alloc (.cells rN 53))
  have x_9 := (xc_8.alloc (.cells rN 53))
  have inv_9 := (invc_8.alloc (.cells rN 53))
  refine (plain_at (-12600) (plV_yes (by decide) (c := 210) (by decide)) (e0 := 0) (by decide +kernel)).mono ?_; rintro e w_9 ⟨rfl, hb_9⟩
  have ac_9 := a_9.below hb_9 a_9.lt
  have bc_9 := b_9.below hb_9 b_9.lt
  have rc_9 := r_9.below hb_9 r_9.lt
  have xc_9 := x_9.below hb_9 x_9.lt
  have invc_9 := inv_9.call hb_9
  clear a_9 b_9 r_9 x_9 inv_9 hb_9
  go_wp2_with (first | refine wpList_store_new rfl 53 _ _ rfl rfl w_9.heap.size rP rfl rfl _ z19 w_9 rfl rfl rfl (by kernel_rfl) (by kernel_rfl) ?_)
  have a_10 := (ac_9.alloc (.cells rP 53))
  have b_10 := (bc_9.alloc (.cells rP 53))
  have r_10 := (rc_9.alloc (.cells rP 53))
  have x_10 := (xc_9.alloc (.cells rP 53))
  have p_10 := (Wd.Blk.new w_9 53 rP)
  have inv_10 := (invc_9.alloc (.cells rP 53))
  refine (of_none).mono ?_; rintro e w_10 ⟨rfl, hb_10⟩
  have ac_10 := a_10.below hb_10 a_10.lt
  have bc_10 := b_10.below hb_10 b_10.lt
  have rc_10 := r_10.below hb_10 r_10.lt
  have xc_10 := x_10.below hb_10 x_10.lt
  have pc_10 := p_10.below hb_10 p_10.lt
  have invc_10 := inv_10.call hb_10
  clear a_10 b_10 r_10 x_10 p_10 inv_10 hb_10
  go_wp2_with (first | refine wpList_store_new rfl 53 _ _ rfl rfl w_10.heap.size rN rfl rfl _ z19 w_10 rfl rfl rfl (by kernel_rfl) (by kernel_rfl) ?_)
  have a_11 := (ac_10.alloc (.cells rN 53))
  have b_11 := (bc_10.alloc (.cells rN 53))
  have r_11 := (rc_10.alloc (.cells rN 53))
  have x_11 := (xc_10.alloc (.cells rN 53))
  have p_11 := (pc_10.alloc (.cells rN 53))
  have inv_11 := (invc_10.alloc (.cells rN 53))
  refine (plain_at 86460 (plV_no (by decide)) (e0 := 1) (by decide +kernel)).mono ?_; rintro e w_11 ⟨rfl, hb_11⟩
  have ac_11 := a_11.below hb_11 a_11.lt
  have bc_11 := b_11.below hb_11 b_11.lt
  have rc_11 := r_11.below hb_11 r_11.lt
  have xc_11 := x_11.below hb_11 x_11.lt
  have pc_11 := p_11.below hb_11 p_11.lt
  have invc_11 := inv_11.call hb_11
  clear a_11 b_11 r_11 x_11 p_11 inv_11 hb_11
  have a_12 := (ac_11.alloc (.cells rN 53))
  have b_12 := (bc_11.alloc (.cells rN 53))
  have r_12 := (rc_11.alloc (.cells rN 53))
  have x_12 := (xc_11.alloc (.cells rN 53))
  have p_12 := (pc_11.alloc (.cells rN 53))
  have inv_12 := (invc_11.alloc (.cells rN 53))
  have hq1 : ∀ w, (binOp .eql 53 (.agg rX) (.agg rX)).run Tryd.prog w = .ok (.bool true) w := fun w => (eq_rc (-60) 0 (-60) (-60) 0 (-60) lA lB lA lB w).trans (by rw [show eqR (-60) 0 (-60) lA lB (-60) 0 (-60) lA lB = true by decide])
  have hq2 : ∀ w, (binOp .eql 53 (.agg rP) (.agg rP)).run Tryd.prog w = .ok (.bool true) w := fun w => (eq_rc 210 0 0 210 0 0 St.nil St.nil St.nil St.nil w).trans (by rw [show eqR 210 0 0 St.nil St.nil 210 0 0 St.nil St.nil = true by decide])
  have hq3 : (litR.extract 0 4).toList = [196, 255, 255, 255] := by decide +kernel
  have hq4 : (litR.size : Int) = 44 := by decide +kernel
  simp only [List.append] at *
  go_wp2_with (first | refine wpList_store_new rfl 53 _ _ rfl rfl w_11.heap.size rN rfl rfl _ z19 w_11 rfl rfl rfl (by kernel_rfl) (by kernel_rfl) ?_ | refine wpList_row_g rfl 53 _ rfl _ rfl _ _ _ _ r_12 Tryd.underlying53 rfl (by kernel_rfl) ?_ | refine wpList_row_g rfl 41 _ rfl _ rfl _ _ _ _ a_12 Tryd.underlying41 rfl (by kernel_rfl) ?_ | refine wpList_row_g rfl 41 _ rfl _ rfl _ _ _ _ b_12 Tryd.underlying41 rfl (by kernel_rfl) ?_ | refine wpList_row_g rfl 53 _ rfl _ rfl _ _ _ _ x_12 Tryd.underlying53 rfl (by kernel_rfl) ?_ | refine wpList_row_g rfl 53 _ rfl _ rfl _ _ _ _ p_12 Tryd.underlying53 rfl (by kernel_rfl) ?_)
  have a_13 := a_12
  have b_13 := b_12
  have r_13 := r_12
  have x_13 := x_12
  have p_13 := p_12
  have inv_13 := inv_12
  refine (chk_at (b := -60) (c := 0) (d := -60) (p := lA) (q := lB) inv_13.1 (bd_lit (w := w)) (by decide +kernel)).mono ?_; rintro e w_13 ⟨rfl, hb_13⟩
  have ac_13 := a_13.below hb_13 a_13.lt
  have bc_13 := b_13.below hb_13 b_13.lt
  have rc_13 := r_13.below hb_13 r_13.lt
  have xc_13 := x_13.below hb_13 x_13.lt
  have pc_13 := p_13.below hb_13 p_13.lt
  have invc_13 := inv_13.call hb_13
  clear a_13 b_13 r_13 x_13 p_13 inv_13 hb_13
  go_wp2_with fail
  have a_14 := ac_13
  have b_14 := bc_13
  have r_14 := rc_13
  have x_14 := xc_13
  have p_14 := pc_13
  have inv_14 := invc_13
  refine (chk_no (b := 1441) (c := 0) (d := 0) (p := St.nil) (q := St.nil) inv_14.1 ⟨by decide, by decide, by decide, bd_N, bd_N⟩ (by decide +kernel)).mono ?_; rintro e w_14 ⟨rfl, hb_14⟩
  have ac_14 := a_14.below hb_14 a_14.lt
  have bc_14 := b_14.below hb_14 b_14.lt
  have rc_14 := r_14.below hb_14 r_14.lt
  have xc_14 := x_14.below hb_14 x_14.lt
  have pc_14 := p_14.below hb_14 p_14.lt
  have invc_14 := inv_14.call hb_14
  clear a_14 b_14 r_14 x_14 p_14 inv_14 hb_14
  go_wp2_with fail
  go_ret
  exact ⟨rfl, invc_14.2⟩
end Go.Proofs.YtcjjgfejamddjaaDoor.Rec
