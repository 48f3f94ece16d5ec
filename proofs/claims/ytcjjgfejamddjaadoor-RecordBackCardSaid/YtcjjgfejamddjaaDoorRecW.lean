/-
  RECORDS: RecordBack walked.
-/
import Derived.Test.YtcjjgfejamddjaaDoorRecL
import Derived.Test.YtcjjgfejamddjaaDoorRecK
namespace Go.Proofs.YtcjjgfejamddjaaDoor.Rec
open Go.ChangeShapes Go.WideShapes Go.ChangeAt Go.RowKit
open Go.Proofs.YtcjjgfejamddjaaDoor
open Go.Proofs.YtcjjgfejamddjaaDoor.Wd
open Go.Proofs.YtcjjgfejamddjaaDoor.Lit
open Go.Proofs.YtcjjgfejamddjaaDoor.Civ (Tab Inv)
set_option linter.unusedVariables false
theorem bytes_t {b c d : Int} {p q : St} (B : RBd b c d p q) {t : ByteArray} (ht : rcT b c d p q = t) (w : World) :
    Calls Tryd.prog 38 #[rcV b c d p q] w fun r w' => r = .returned (.string t) ∧ Below w.heap.size w w' := by
  have := bytes_any b c d p q w B
  rwa [show (⟨(rcB b c d p q).toArray⟩ : ByteArray) = t from ht] at this
theorem of_t_ok {b c d : Int} {p q : St} (B : RBd b c d p q) {t : ByteArray} (ht : rcT b c d p q = t) (hR : rcOk b c d p q = true) {w : World} (hT : Tab w) :
    Calls Tryd.prog 30 #[.string t] w fun r w' => r = .returned (.tuple #[rcV b c d p q, .int .i64 0]) ∧ Below w.heap.size w w' := by
  subst ht
  have := of_any (rcT b c d p q) w hT
  rwa [oV_rc B hR, show oE (rcT b c d p q) = 0 by unfold oE; rw [if_pos ((oOk_rc B).trans hR)]] at this
theorem of_t_no {b c d : Int} {p q : St} (B : RBd b c d p q) {t : ByteArray} (ht : rcT b c d p q = t) (hR : rcOk b c d p q = false) {w : World} (hT : Tab w) :
    Calls Tryd.prog 30 #[.string t] w fun r w' => r = .returned (.tuple #[rcV 0 0 0 St.nil St.nil, .int .i64 11]) ∧ Below w.heap.size w w' := by
  subst ht
  have := of_any (rcT b c d p q) w hT
  have h2 := of_bad ((oOk_rc B).trans hR)
  rwa [h2.1, h2.2] at this
theorem of_s_ok {s : ByteArray} (hS : oOk s = true) {w : World} (hT : Tab w) :
    Calls Tryd.prog 30 #[.string s] w fun r w' => r = .returned (.tuple #[rcV (oB s 0) (oB s 1) (oB s 2) (oS s 0) (oS s 1), .int .i64 0]) ∧ Below w.heap.size w w' := by
  have := of_any s w hT
  have h2 := of_good hS
  rwa [h2.1, h2.2] at this
theorem of_s_no {s : ByteArray} (hS : oOk s = false) {w : World} (hT : Tab w) :
    Calls Tryd.prog 30 #[.string s] w fun r w' => r = .returned (.tuple #[rcV 0 0 0 St.nil St.nil, .int .i64 11]) ∧ Below w.heap.size w w' := by
  have := of_any s w hT
  have h2 := of_bad hS
  rwa [h2.1, h2.2] at this
theorem neq_self (b c d : Int) (p q : St) (w : World) : (binOp .neq 53 (rcV b c d p q) (rcV b c d p q)).run Tryd.prog w = .ok (.bool false) w := by
  rw [neq_rc, eqR_iff.2 ⟨rfl, rfl, rfl, rfl, rfl⟩]; rfl
theorem eq_self (b c d : Int) (p q : St) (w : World) : (binOp .eql 53 (rcV b c d p q) (rcV b c d p q)).run Tryd.prog w = .ok (.bool true) w := by
  rw [eq_rc, eqR_iff.2 ⟨rfl, rfl, rfl, rfl, rfl⟩]
theorem eqs_self (p : St) (w : World) : (binOp .eql 41 (.agg (sA p)) (.agg (sA p))).run Tryd.prog w = .ok (.bool true) w := by
  rw [eq_stt, eqS_iff.2 rfl]
theorem s_pack {s : ByteArray} (hS : oOk s = true) : ∃ (b c d : Int) (p q : St), RBd b c d p q ∧ rcOk b c d p q = true ∧ Stp.chkS p.y p.m p.v p.d p.h p.i p.s p.u = 0 ∧ Stp.chkS q.y q.m q.v q.d q.h q.i q.s q.u = 0 ∧
    (∀ w, Tab w → Calls Tryd.prog 30 #[.string s] w fun r w' => r = .returned (.tuple #[rcV b c d p q, .int .i64 0]) ∧ Below w.heap.size w w') ∧
    (∀ w, Calls Tryd.prog 38 #[rcV b c d p q] w fun r w' => r = .returned (.string s) ∧ Below w.heap.size w w') := by
  obtain ⟨hz, hr⟩ := oOk_iff.1 hS
  exact ⟨_, _, _, _, _, o_rbd s, hr, (rcOk_st hr).1, (rcOk_st hr).2, fun w hT => of_s_ok hS hT, fun w => bytes_t (o_rbd s) (rc_back s hz) w⟩
theorem m_pack {x y : Int} {a b : St} (Ba : a.Bd) (Bb : b.Bd) (hx : -9223372036854775808 ≤ x ∧ x ≤ 9223372036854775807) (hy : -9223372036854775808 ≤ y ∧ y ≤ 9223372036854775807) (h : mkOk x y a b = true) : ∃ mb md : Int,
    (∀ w, Tab w → Calls Tryd.prog 32 #[.int .i64 x, .int .i64 y, .agg (sA a), .agg (sA b)] w fun r w' => r = .returned (.tuple #[rcV mb 0 md a b, .int .i64 0]) ∧ Below w.heap.size w w') ∧
    (∀ w, Calls Tryd.prog 28 #[rcV mb 0 md a b] w fun r w' => r = .returned (.tuple #[.int .i64 x, .int .i64 y]) ∧ Below w.heap.size w w') ∧
    (∀ w, Tab w → Calls Tryd.prog 36 #[rcV mb 0 md a b] w fun r w' => r = .returned (.int .i64 0) ∧ Below w.heap.size w w') ∧
    (∀ w, Calls Tryd.prog 34 #[.int .i64 x] w fun r w' => r = .returned (.tuple #[rcV mb 0 0 St.nil St.nil, .int .i64 0]) ∧ Below w.heap.size w w') ∧
    (∀ w, Calls Tryd.prog 28 #[rcV mb 0 0 St.nil St.nil] w fun r w' => r = .returned (.tuple #[.int .i64 x, .int .i64 x]) ∧ Below w.heap.size w w') := by
  obtain ⟨e1, e2, hr, h1, h2⟩ := mk_offs h
  have B := mk_rbd h Ba Bb
  refine ⟨-(x / 60), (x - y) / 60, fun w hT => make_at hT Ba Bb hx hy h rfl rfl, fun w => ?_, fun w hT => chk_at hT B hr, fun w => plain_at x (plV_yes h1 rfl) (by unfold plE; rw [if_pos h1]), fun w => ?_⟩
  · have := offs_any _ _ _ _ _ w B
    rwa [e1, e2] at this
  · have := offs_any _ _ _ _ _ w (pl_offs h1).2
    rwa [(pl_offs h1).1] at this
set_option maxRecDepth 100000 in
set_option maxHeartbeats 16000000 in
attribute [-go_sem] run_eql_struct run_neq_struct in
theorem back_all (b c d : Int) (p q : St) (s : ByteArray) (x y : Int) (sx sy : St) (w : World) (hT : Tab w) (B : RBd b c d p q) (Bx : sx.Bd) (By : sy.Bd)
    (hx : -9223372036854775808 ≤ x ∧ x ≤ 9223372036854775807) (hy : -9223372036854775808 ≤ y ∧ y ≤ 9223372036854775807) (hs : ¬ (1000 : Int) < (s.size : Int)) :
    Calls Tryd.prog 8 #[rcV b c d p q, .string s, .int .i64 x, .int .i64 y, .agg (sA sx), .agg (sA sy)] w fun e w' => e = .returned (.bool true) ∧ Below w.heap.size w w' := by
  have i0 := Civ.Inv.start hT
  obtain ⟨t, ht⟩ : ∃ t, rcT b c d p q = t := ⟨_, rfl⟩
  have htz : ((t.size : Int) != 44) = false := by rw [← ht, rcT_size]; rfl
  go_enter Tryd.func8, Tryd.ntmps8
  go_wp2_with fail
  have r_1 := (((Wd.Blk.new w 53 (rcA b c d p q)).alloc (.cells (sA sx) 41)).alloc (.cells (sA sy) 41))
  have u_1 := ((blk_at (w.alloc (.cells (rcA b c d p q) 53)) 41 (sA sx) (sz1 _ _ rfl)).alloc (.cells (sA sy) 41))
  have v_1 := (blk_at ((w.alloc (.cells (rcA b c d p q) 53)).alloc (.cells (sA sx) 41)) 41 (sA sy) (sz1 _ _ (sz1 _ _ rfl)))
  have inv_1 := (((i0.alloc (.cells (rcA b c d p q) 53)).alloc (.cells (sA sx) 41)).alloc (.cells (sA sy) 41))
  refine (lives_any _ inv_1.1).mono ?_; rintro e w_1 ⟨rfl, hb_1⟩
  have rc_1 := r_1.below hb_1 r_1.lt
  have uc_1 := u_1.below hb_1 u_1.lt
  have vc_1 := v_1.below hb_1 v_1.lt
  have invc_1 := inv_1.call hb_1
  clear r_1 u_1 v_1 inv_1 hb_1
  go_wp2_with (refine wpList_row_g rfl 53 _ rfl _ rfl _ _ _ _ rc_1 Tryd.underlying53 rfl (by kernel_rfl) ?_)
  have r_2 := rc_1
  have u_2 := uc_1
  have v_2 := vc_1
  have inv_2 := invc_1
  refine (bytes_t B ht _).mono ?_; rintro e w_2 ⟨rfl, hb_2⟩
  have rc_2 := r_2.below hb_2 r_2.lt
  have uc_2 := u_2.below hb_2 u_2.lt
  have vc_2 := v_2.below hb_2 v_2.lt
  have invc_2 := inv_2.call hb_2
  clear r_2 u_2 v_2 inv_2 hb_2
  go_wp2_with fail
  cases hR : rcOk b c d p q
  · skip
    have r_3 := rc_2
    have u_3 := uc_2
    have v_3 := vc_2
    have inv_3 := invc_2
    refine (of_t_no B ht hR inv_3.1).mono ?_; rintro e w_3 ⟨rfl, hb_3⟩
    have rc_3 := r_3.below hb_3 r_3.lt
    have uc_3 := u_3.below hb_3 u_3.lt
    have vc_3 := v_3.below hb_3 v_3.lt
    have invc_3 := inv_3.call hb_3
    clear r_3 u_3 v_3 inv_3 hb_3
    have r_4 := (rc_3.alloc (.cells rN 53))
    have u_4 := (uc_3.alloc (.cells rN 53))
    have v_4 := (vc_3.alloc (.cells rN 53))
    have x_4 := (Wd.Blk.new w_3 53 rN)
    have inv_4 := (invc_3.alloc (.cells rN 53))
    go_wp2_with (first | refine wpList_store_new rfl 53 _ _ rfl rfl w_3.heap.size rN rfl rfl _ z19 w_3 rfl rfl rfl (by kernel_rfl) (by kernel_rfl) ?_ | refine wpList_row_g rfl 53 _ rfl _ rfl _ _ _ _ r_4 Tryd.underlying53 rfl (by kernel_rfl) ?_ | refine wpList_row_g rfl 53 _ rfl _ rfl _ _ _ _ x_4 Tryd.underlying53 rfl (by kernel_rfl) ?_)
    have r_5 := r_4
    have u_5 := u_4
    have v_5 := v_4
    have x_5 := x_4
    have inv_5 := inv_4
    refine (chk_no inv_5.1 B hR).mono ?_; rintro e w_5 ⟨rfl, hb_5⟩
    have rc_5 := r_5.below hb_5 r_5.lt
    have uc_5 := u_5.below hb_5 u_5.lt
    have vc_5 := v_5.below hb_5 v_5.lt
    have xc_5 := x_5.below hb_5 x_5.lt
    have invc_5 := inv_5.call hb_5
    clear r_5 u_5 v_5 x_5 inv_5 hb_5
    go_wp2_with (first | refine wpList_row_g rfl 53 _ rfl _ rfl _ _ _ _ rc_5 Tryd.underlying53 rfl (by kernel_rfl) ?_ | refine wpList_row_g rfl 53 _ rfl _ rfl _ _ _ _ xc_5 Tryd.underlying53 rfl (by kernel_rfl) ?_)
    cases hS : oOk s
    · skip
      have u_6 := uc_5
      have v_6 := vc_5
      have inv_6 := invc_5
      refine (of_s_no hS inv_6.1).mono ?_; rintro e w_6 ⟨rfl, hb_6⟩
      have uc_6 := u_6.below hb_6 u_6.lt
      have vc_6 := v_6.below hb_6 v_6.lt
      have invc_6 := inv_6.call hb_6
      clear u_6 v_6 inv_6 hb_6
      have u_7 := (uc_6.alloc (.cells rN 53))
      have v_7 := (vc_6.alloc (.cells rN 53))
      have x_7 := (Wd.Blk.new w_6 53 rN)
      have inv_7 := (invc_6.alloc (.cells rN 53))
      go_upto_region 10 with (refine wpList_store_new rfl 53 _ _ rfl rfl w_6.heap.size rN rfl rfl _ z19 w_6 rfl rfl rfl (by kernel_rfl) (by kernel_rfl) ?_)
      go_upto_region 12 with fail
      go_wp2_with (first | refine wpList_row_g rfl 41 _ rfl _ rfl _ _ _ _ u_7 Tryd.underlying41 rfl (by kernel_rfl) ?_ | refine wpList_row_g rfl 41 _ rfl _ rfl _ _ _ _ v_7 Tryd.underlying41 rfl (by kernel_rfl) ?_)
      cases hM : mkOk x y sx sy
      · skip
        obtain ⟨E, hE, hEb⟩ : ∃ E, mkE x y sx sy = E ∧ (E != 0) = true := ⟨_, rfl, by rw [bne_iff_ne]; intro h; rw [mkE_ok.1 h] at hM; cases hM⟩
        have u_8 := u_7
        have v_8 := v_7
        have inv_8 := inv_7
        refine (make_no inv_8.1 Bx By hx hy hM hE).mono ?_; rintro e w_8 ⟨rfl, hb_8⟩
        have uc_8 := u_8.below hb_8 u_8.lt
        have vc_8 := v_8.below hb_8 v_8.lt
        have invc_8 := inv_8.call hb_8
        clear u_8 v_8 inv_8 hb_8
        have u_9 := (uc_8.alloc (.cells rN 53))
        have v_9 := (vc_8.alloc (.cells rN 53))
        have m_9 := (Wd.Blk.new w_8 53 rN)
        have inv_9 := (invc_8.alloc (.cells rN 53))
        have hez : (binOp .eql 53 (.agg rN) (.agg rN)).run Tryd.prog = fun w => .ok (.bool true) w := funext fun w => eq_self 0 0 0 St.nil St.nil w
        go_wp2_with (first | refine wpList_store_new rfl 53 _ _ rfl rfl w_8.heap.size rN rfl rfl _ z19 w_8 rfl rfl rfl (by kernel_rfl) (by kernel_rfl) ?_ | refine wpList_row_g rfl 53 _ rfl _ rfl _ _ _ _ m_9 Tryd.underlying53 rfl (by kernel_rfl) ?_)
        go_ret
        exact ⟨rfl, inv_9.2⟩
      · skip
        obtain ⟨mb, md, hmk, hmo, hmc, hpl, hpo⟩ := m_pack Bx By hx hy hM
        have u_8 := u_7
        have v_8 := v_7
        have inv_8 := inv_7
        refine (hmk _ inv_8.1).mono ?_; rintro e w_8 ⟨rfl, hb_8⟩
        have uc_8 := u_8.below hb_8 u_8.lt
        have vc_8 := v_8.below hb_8 v_8.lt
        have invc_8 := inv_8.call hb_8
        clear u_8 v_8 inv_8 hb_8
        have u_9 := (uc_8.alloc (.cells (rcA mb 0 md sx sy) 53))
        have v_9 := (vc_8.alloc (.cells (rcA mb 0 md sx sy) 53))
        have m_9 := (Wd.Blk.new w_8 53 (rcA mb 0 md sx sy))
        have inv_9 := (invc_8.alloc (.cells (rcA mb 0 md sx sy) 53))
        go_wp2_with (first | refine wpList_store_new rfl 53 _ _ rfl rfl w_8.heap.size (rcA mb 0 md sx sy) rfl rfl _ z19 w_8 rfl rfl rfl (by kernel_rfl) (by kernel_rfl) ?_ | refine wpList_row_g rfl 53 _ rfl _ rfl _ _ _ _ m_9 Tryd.underlying53 rfl (by kernel_rfl) ?_)
        have u_10 := u_9
        have v_10 := v_9
        have m_10 := m_9
        have inv_10 := inv_9
        refine (hmo _).mono ?_; rintro e w_10 ⟨rfl, hb_10⟩
        have uc_10 := u_10.below hb_10 u_10.lt
        have vc_10 := v_10.below hb_10 v_10.lt
        have mc_10 := m_10.below hb_10 m_10.lt
        have invc_10 := inv_10.call hb_10
        clear u_10 v_10 m_10 inv_10 hb_10
        go_wp2_with fail
        have u_11 := uc_10
        have v_11 := vc_10
        have m_11 := mc_10
        have inv_11 := invc_10
        refine (hpl _).mono ?_; rintro e w_11 ⟨rfl, hb_11⟩
        have uc_11 := u_11.below hb_11 u_11.lt
        have vc_11 := v_11.below hb_11 v_11.lt
        have mc_11 := m_11.below hb_11 m_11.lt
        have invc_11 := inv_11.call hb_11
        clear u_11 v_11 m_11 inv_11 hb_11
        have u_12 := (uc_11.alloc (.cells (rcA mb 0 0 St.nil St.nil) 53))
        have v_12 := (vc_11.alloc (.cells (rcA mb 0 0 St.nil St.nil) 53))
        have m_12 := (mc_11.alloc (.cells (rcA mb 0 0 St.nil St.nil) 53))
        have n_12 := (Wd.Blk.new w_11 53 (rcA mb 0 0 St.nil St.nil))
        have inv_12 := (invc_11.alloc (.cells (rcA mb 0 0 St.nil St.nil) 53))
        go_wp2_with (first | refine wpList_store_new rfl 53 _ _ rfl rfl w_11.heap.size (rcA mb 0 0 St.nil St.nil) rfl rfl _ z19 w_11 rfl rfl rfl (by kernel_rfl) (by kernel_rfl) ?_ | refine wpList_row_g rfl 53 _ rfl _ rfl _ _ _ _ n_12 Tryd.underlying53 rfl (by kernel_rfl) ?_)
        have u_13 := u_12
        have v_13 := v_12
        have m_13 := m_12
        have n_13 := n_12
        have inv_13 := inv_12
        refine (hpo _).mono ?_; rintro e w_13 ⟨rfl, hb_13⟩
        have uc_13 := u_13.below hb_13 u_13.lt
        have vc_13 := v_13.below hb_13 v_13.lt
        have mc_13 := m_13.below hb_13 m_13.lt
        have nc_13 := n_13.below hb_13 n_13.lt
        have invc_13 := inv_13.call hb_13
        clear u_13 v_13 m_13 n_13 inv_13 hb_13
        go_wp2_with (refine wpList_row_g rfl 53 _ rfl _ rfl _ _ _ _ mc_13 Tryd.underlying53 rfl (by kernel_rfl) ?_)
        have u_14 := uc_13
        have v_14 := vc_13
        have m_14 := mc_13
        have n_14 := nc_13
        have inv_14 := invc_13
        refine (hmc _ inv_14.1).mono ?_; rintro e w_14 ⟨rfl, hb_14⟩
        have uc_14 := u_14.below hb_14 u_14.lt
        have vc_14 := v_14.below hb_14 v_14.lt
        have mc_14 := m_14.below hb_14 m_14.lt
        have nc_14 := n_14.below hb_14 n_14.lt
        have invc_14 := inv_14.call hb_14
        clear u_14 v_14 m_14 n_14 inv_14 hb_14
        have u_15 := uc_14
        have v_15 := vc_14
        have m_15 := mc_14
        have n_15 := nc_14
        have inv_15 := invc_14
        have hxx : (binOp .eql 41 (.agg (sA sx)) (.agg (sA sx))).run Tryd.prog = fun w => .ok (.bool true) w := funext fun w => eqs_self sx w
        have hyy : (binOp .eql 41 (.agg (sA sy)) (.agg (sA sy))).run Tryd.prog = fun w => .ok (.bool true) w := funext fun w => eqs_self sy w
        have hzz : (binOp .eql 41 (.agg (sA St.nil)) (.agg #[.int .u16 0, .int .u16 0, .int .u16 0, .int .u16 0, .int .u16 0, .int .u16 0, .int .u16 0, .int .u16 0])).run Tryd.prog = fun w => .ok (.bool true) w := funext fun w => eqs_self St.nil w
        go_wp2_with (first | refine wpList_seg_g rfl 41 _ rfl _ 3 (sA sx) rfl _ _ _ _ m_15 Tryd.underlying41 rfl (by kernel_rfl) (by kernel_rfl) ?_ | refine wpList_seg_g rfl 41 _ rfl _ 11 (sA sy) rfl _ _ _ _ m_15 Tryd.underlying41 rfl (by kernel_rfl) (by kernel_rfl) ?_ | refine wpList_seg_g rfl 41 _ rfl _ 3 (sA St.nil) rfl _ _ _ _ n_15 Tryd.underlying41 rfl (by kernel_rfl) (by kernel_rfl) ?_ | refine wpList_row_g rfl 41 _ rfl _ rfl _ _ _ _ u_15 Tryd.underlying41 rfl (by kernel_rfl) ?_ | refine wpList_row_g rfl 41 _ rfl _ rfl _ _ _ _ v_15 Tryd.underlying41 rfl (by kernel_rfl) ?_)
        go_ret
        exact ⟨rfl, inv_15.2⟩
    · skip
      obtain ⟨b1, c1, d1, p1, q1, B1, h1, h2, h3, hof, hby⟩ := s_pack hS
      have u_6 := uc_5
      have v_6 := vc_5
      have inv_6 := invc_5
      refine (hof _ inv_6.1).mono ?_; rintro e w_6 ⟨rfl, hb_6⟩
      have uc_6 := u_6.below hb_6 u_6.lt
      have vc_6 := v_6.below hb_6 v_6.lt
      have invc_6 := inv_6.call hb_6
      clear u_6 v_6 inv_6 hb_6
      have u_7 := (uc_6.alloc (.cells (rcA b1 c1 d1 p1 q1) 53))
      have v_7 := (vc_6.alloc (.cells (rcA b1 c1 d1 p1 q1) 53))
      have x_7 := (Wd.Blk.new w_6 53 (rcA b1 c1 d1 p1 q1))
      have inv_7 := (invc_6.alloc (.cells (rcA b1 c1 d1 p1 q1) 53))
      go_wp2_with (first | refine wpList_store_new rfl 53 _ _ rfl rfl w_6.heap.size (rcA b1 c1 d1 p1 q1) rfl rfl _ z19 w_6 rfl rfl rfl (by kernel_rfl) (by kernel_rfl) ?_ | refine wpList_row_g rfl 53 _ rfl _ rfl _ _ _ _ x_7 Tryd.underlying53 rfl (by kernel_rfl) ?_)
      have u_8 := u_7
      have v_8 := v_7
      have x_8 := x_7
      have inv_8 := inv_7
      refine (hby _).mono ?_; rintro e w_8 ⟨rfl, hb_8⟩
      have uc_8 := u_8.below hb_8 u_8.lt
      have vc_8 := v_8.below hb_8 v_8.lt
      have xc_8 := x_8.below hb_8 x_8.lt
      have invc_8 := inv_8.call hb_8
      clear u_8 v_8 x_8 inv_8 hb_8
      have hsl : (s.toList != s.toList) = false := by simp
      go_wp2_with (refine wpList_row_g rfl 53 _ rfl _ rfl _ _ _ _ xc_8 Tryd.underlying53 rfl (by kernel_rfl) ?_)
      clear hsl
      have u_9 := uc_8
      have v_9 := vc_8
      have x_9 := xc_8
      have inv_9 := invc_8
      refine (chk_at inv_9.1 B1 h1).mono ?_; rintro e w_9 ⟨rfl, hb_9⟩
      have uc_9 := u_9.below hb_9 u_9.lt
      have vc_9 := v_9.below hb_9 v_9.lt
      have xc_9 := x_9.below hb_9 x_9.lt
      have invc_9 := inv_9.call hb_9
      clear u_9 v_9 x_9 inv_9 hb_9
      go_wp2_with (refine wpList_seg_g rfl 41 _ rfl _ 3 (sA p1) rfl _ _ _ _ xc_9 Tryd.underlying41 rfl (by kernel_rfl) (by kernel_rfl) ?_)
      have u_10 := uc_9
      have v_10 := vc_9
      have x_10 := xc_9
      have inv_10 := invc_9
      refine (Stp.chk_at inv_10.1 B1.p h2).mono ?_; rintro e w_10 ⟨rfl, hb_10⟩
      have uc_10 := u_10.below hb_10 u_10.lt
      have vc_10 := v_10.below hb_10 v_10.lt
      have xc_10 := x_10.below hb_10 x_10.lt
      have invc_10 := inv_10.call hb_10
      clear u_10 v_10 x_10 inv_10 hb_10
      go_wp2_with (refine wpList_seg_g rfl 41 _ rfl _ 11 (sA q1) rfl _ _ _ _ xc_10 Tryd.underlying41 rfl (by kernel_rfl) (by kernel_rfl) ?_)
      have u_11 := uc_10
      have v_11 := vc_10
      have x_11 := xc_10
      have inv_11 := invc_10
      refine (Stp.chk_at inv_11.1 B1.q h3).mono ?_; rintro e w_11 ⟨rfl, hb_11⟩
      have uc_11 := u_11.below hb_11 u_11.lt
      have vc_11 := v_11.below hb_11 v_11.lt
      have xc_11 := x_11.below hb_11 x_11.lt
      have invc_11 := inv_11.call hb_11
      clear u_11 v_11 x_11 inv_11 hb_11
      go_wp2_with (first | refine wpList_row_g rfl 41 _ rfl _ rfl _ _ _ _ uc_11 Tryd.underlying41 rfl (by kernel_rfl) ?_ | refine wpList_row_g rfl 41 _ rfl _ rfl _ _ _ _ vc_11 Tryd.underlying41 rfl (by kernel_rfl) ?_)
      cases hM : mkOk x y sx sy
      · skip
        obtain ⟨E, hE, hEb⟩ : ∃ E, mkE x y sx sy = E ∧ (E != 0) = true := ⟨_, rfl, by rw [bne_iff_ne]; intro h; rw [mkE_ok.1 h] at hM; cases hM⟩
        have u_12 := uc_11
        have v_12 := vc_11
        have inv_12 := invc_11
        refine (make_no inv_12.1 Bx By hx hy hM hE).mono ?_; rintro e w_12 ⟨rfl, hb_12⟩
        have uc_12 := u_12.below hb_12 u_12.lt
        have vc_12 := v_12.below hb_12 v_12.lt
        have invc_12 := inv_12.call hb_12
        clear u_12 v_12 inv_12 hb_12
        have u_13 := (uc_12.alloc (.cells rN 53))
        have v_13 := (vc_12.alloc (.cells rN 53))
        have m_13 := (Wd.Blk.new w_12 53 rN)
        have inv_13 := (invc_12.alloc (.cells rN 53))
        have hez : (binOp .eql 53 (.agg rN) (.agg rN)).run Tryd.prog = fun w => .ok (.bool true) w := funext fun w => eq_self 0 0 0 St.nil St.nil w
        go_wp2_with (first | refine wpList_store_new rfl 53 _ _ rfl rfl w_12.heap.size rN rfl rfl _ z19 w_12 rfl rfl rfl (by kernel_rfl) (by kernel_rfl) ?_ | refine wpList_row_g rfl 53 _ rfl _ rfl _ _ _ _ m_13 Tryd.underlying53 rfl (by kernel_rfl) ?_)
        go_ret
        exact ⟨rfl, inv_13.2⟩
      · skip
        obtain ⟨mb, md, hmk, hmo, hmc, hpl, hpo⟩ := m_pack Bx By hx hy hM
        have u_12 := uc_11
        have v_12 := vc_11
        have inv_12 := invc_11
        refine (hmk _ inv_12.1).mono ?_; rintro e w_12 ⟨rfl, hb_12⟩
        have uc_12 := u_12.below hb_12 u_12.lt
        have vc_12 := v_12.below hb_12 v_12.lt
        have invc_12 := inv_12.call hb_12
        clear u_12 v_12 inv_12 hb_12
        have u_13 := (uc_12.alloc (.cells (rcA mb 0 md sx sy) 53))
        have v_13 := (vc_12.alloc (.cells (rcA mb 0 md sx sy) 53))
        have m_13 := (Wd.Blk.new w_12 53 (rcA mb 0 md sx sy))
        have inv_13 := (invc_12.alloc (.cells (rcA mb 0 md sx sy) 53))
        go_wp2_with (first | refine wpList_store_new rfl 53 _ _ rfl rfl w_12.heap.size (rcA mb 0 md sx sy) rfl rfl _ z19 w_12 rfl rfl rfl (by kernel_rfl) (by kernel_rfl) ?_ | refine wpList_row_g rfl 53 _ rfl _ rfl _ _ _ _ m_13 Tryd.underlying53 rfl (by kernel_rfl) ?_)
        have u_14 := u_13
        have v_14 := v_13
        have m_14 := m_13
        have inv_14 := inv_13
        refine (hmo _).mono ?_; rintro e w_14 ⟨rfl, hb_14⟩
        have uc_14 := u_14.below hb_14 u_14.lt
        have vc_14 := v_14.below hb_14 v_14.lt
        have mc_14 := m_14.below hb_14 m_14.lt
        have invc_14 := inv_14.call hb_14
        clear u_14 v_14 m_14 inv_14 hb_14
        go_wp2_with fail
        have u_15 := uc_14
        have v_15 := vc_14
        have m_15 := mc_14
        have inv_15 := invc_14
        refine (hpl _).mono ?_; rintro e w_15 ⟨rfl, hb_15⟩
        have uc_15 := u_15.below hb_15 u_15.lt
        have vc_15 := v_15.below hb_15 v_15.lt
        have mc_15 := m_15.below hb_15 m_15.lt
        have invc_15 := inv_15.call hb_15
        clear u_15 v_15 m_15 inv_15 hb_15
        have u_16 := (uc_15.alloc (.cells (rcA mb 0 0 St.nil St.nil) 53))
        have v_16 := (vc_15.alloc (.cells (rcA mb 0 0 St.nil St.nil) 53))
        have m_16 := (mc_15.alloc (.cells (rcA mb 0 0 St.nil St.nil) 53))
        have n_16 := (Wd.Blk.new w_15 53 (rcA mb 0 0 St.nil St.nil))
        have inv_16 := (invc_15.alloc (.cells (rcA mb 0 0 St.nil St.nil) 53))
        go_wp2_with (first | refine wpList_store_new rfl 53 _ _ rfl rfl w_15.heap.size (rcA mb 0 0 St.nil St.nil) rfl rfl _ z19 w_15 rfl rfl rfl (by kernel_rfl) (by kernel_rfl) ?_ | refine wpList_row_g rfl 53 _ rfl _ rfl _ _ _ _ n_16 Tryd.underlying53 rfl (by kernel_rfl) ?_)
        have u_17 := u_16
        have v_17 := v_16
        have m_17 := m_16
        have n_17 := n_16
        have inv_17 := inv_16
        refine (hpo _).mono ?_; rintro e w_17 ⟨rfl, hb_17⟩
        have uc_17 := u_17.below hb_17 u_17.lt
        have vc_17 := v_17.below hb_17 v_17.lt
        have mc_17 := m_17.below hb_17 m_17.lt
        have nc_17 := n_17.below hb_17 n_17.lt
        have invc_17 := inv_17.call hb_17
        clear u_17 v_17 m_17 n_17 inv_17 hb_17
        go_wp2_with (refine wpList_row_g rfl 53 _ rfl _ rfl _ _ _ _ mc_17 Tryd.underlying53 rfl (by kernel_rfl) ?_)
        have u_18 := uc_17
        have v_18 := vc_17
        have m_18 := mc_17
        have n_18 := nc_17
        have inv_18 := invc_17
        refine (hmc _ inv_18.1).mono ?_; rintro e w_18 ⟨rfl, hb_18⟩
        have uc_18 := u_18.below hb_18 u_18.lt
        have vc_18 := v_18.below hb_18 v_18.lt
        have mc_18 := m_18.below hb_18 m_18.lt
        have nc_18 := n_18.below hb_18 n_18.lt
        have invc_18 := inv_18.call hb_18
        clear u_18 v_18 m_18 n_18 inv_18 hb_18
        have u_19 := uc_18
        have v_19 := vc_18
        have m_19 := mc_18
        have n_19 := nc_18
        have inv_19 := invc_18
        have hxx : (binOp .eql 41 (.agg (sA sx)) (.agg (sA sx))).run Tryd.prog = fun w => .ok (.bool true) w := funext fun w => eqs_self sx w
        have hyy : (binOp .eql 41 (.agg (sA sy)) (.agg (sA sy))).run Tryd.prog = fun w => .ok (.bool true) w := funext fun w => eqs_self sy w
        have hzz : (binOp .eql 41 (.agg (sA St.nil)) (.agg #[.int .u16 0, .int .u16 0, .int .u16 0, .int .u16 0, .int .u16 0, .int .u16 0, .int .u16 0, .int .u16 0])).run Tryd.prog = fun w => .ok (.bool true) w := funext fun w => eqs_self St.nil w
        go_wp2_with (first | refine wpList_seg_g rfl 41 _ rfl _ 3 (sA sx) rfl _ _ _ _ m_19 Tryd.underlying41 rfl (by kernel_rfl) (by kernel_rfl) ?_ | refine wpList_seg_g rfl 41 _ rfl _ 11 (sA sy) rfl _ _ _ _ m_19 Tryd.underlying41 rfl (by kernel_rfl) (by kernel_rfl) ?_ | refine wpList_seg_g rfl 41 _ rfl _ 3 (sA St.nil) rfl _ _ _ _ n_19 Tryd.underlying41 rfl (by kernel_rfl) (by kernel_rfl) ?_ | refine wpList_row_g rfl 41 _ rfl _ rfl _ _ _ _ u_19 Tryd.underlying41 rfl (by kernel_rfl) ?_ | refine wpList_row_g rfl 41 _ rfl _ rfl _ _ _ _ v_19 Tryd.underlying41 rfl (by kernel_rfl) ?_)
        go_ret
        exact ⟨rfl, inv_19.2⟩
  · skip
    have r_3 := rc_2
    have u_3 := uc_2
    have v_3 := vc_2
    have inv_3 := invc_2
    refine (of_t_ok B ht hR inv_3.1).mono ?_; rintro e w_3 ⟨rfl, hb_3⟩
    have rc_3 := r_3.below hb_3 r_3.lt
    have uc_3 := u_3.below hb_3 u_3.lt
    have vc_3 := v_3.below hb_3 v_3.lt
    have invc_3 := inv_3.call hb_3
    clear r_3 u_3 v_3 inv_3 hb_3
    have r_4 := (rc_3.alloc (.cells (rcA b c d p q) 53))
    have u_4 := (uc_3.alloc (.cells (rcA b c d p q) 53))
    have v_4 := (vc_3.alloc (.cells (rcA b c d p q) 53))
    have x_4 := (Wd.Blk.new w_3 53 (rcA b c d p q))
    have inv_4 := (invc_3.alloc (.cells (rcA b c d p q) 53))
    go_wp2_with (first | refine wpList_store_new rfl 53 _ _ rfl rfl w_3.heap.size (rcA b c d p q) rfl rfl _ z19 w_3 rfl rfl rfl (by kernel_rfl) (by kernel_rfl) ?_ | refine wpList_row_g rfl 53 _ rfl _ rfl _ _ _ _ r_4 Tryd.underlying53 rfl (by kernel_rfl) ?_ | refine wpList_row_g rfl 53 _ rfl _ rfl _ _ _ _ x_4 Tryd.underlying53 rfl (by kernel_rfl) ?_)
    have r_5 := r_4
    have u_5 := u_4
    have v_5 := v_4
    have x_5 := x_4
    have inv_5 := inv_4
    refine (chk_at inv_5.1 B hR).mono ?_; rintro e w_5 ⟨rfl, hb_5⟩
    have rc_5 := r_5.below hb_5 r_5.lt
    have uc_5 := u_5.below hb_5 u_5.lt
    have vc_5 := v_5.below hb_5 v_5.lt
    have xc_5 := x_5.below hb_5 x_5.lt
    have invc_5 := inv_5.call hb_5
    clear r_5 u_5 v_5 x_5 inv_5 hb_5
    have hne : (binOp .neq 53 (.agg (rcA b c d p q)) (.agg (rcA b c d p q))).run Tryd.prog = fun w => .ok (.bool false) w := funext fun w => neq_self b c d p q w
    go_wp2_with (first | refine wpList_row_g rfl 53 _ rfl _ rfl _ _ _ _ rc_5 Tryd.underlying53 rfl (by kernel_rfl) ?_ | refine wpList_row_g rfl 53 _ rfl _ rfl _ _ _ _ xc_5 Tryd.underlying53 rfl (by kernel_rfl) ?_)
    clear hne
    cases hS : oOk s
    · skip
      have u_6 := uc_5
      have v_6 := vc_5
      have inv_6 := invc_5
      refine (of_s_no hS inv_6.1).mono ?_; rintro e w_6 ⟨rfl, hb_6⟩
      have uc_6 := u_6.below hb_6 u_6.lt
      have vc_6 := v_6.below hb_6 v_6.lt
      have invc_6 := inv_6.call hb_6
      clear u_6 v_6 inv_6 hb_6
      have u_7 := (uc_6.alloc (.cells rN 53))
      have v_7 := (vc_6.alloc (.cells rN 53))
      have x_7 := (Wd.Blk.new w_6 53 rN)
      have inv_7 := (invc_6.alloc (.cells rN 53))
      go_upto_region 10 with (refine wpList_store_new rfl 53 _ _ rfl rfl w_6.heap.size rN rfl rfl _ z19 w_6 rfl rfl rfl (by kernel_rfl) (by kernel_rfl) ?_)
      go_upto_region 12 with fail
      go_wp2_with (first | refine wpList_row_g rfl 41 _ rfl _ rfl _ _ _ _ u_7 Tryd.underlying41 rfl (by kernel_rfl) ?_ | refine wpList_row_g rfl 41 _ rfl _ rfl _ _ _ _ v_7 Tryd.underlying41 rfl (by kernel_rfl) ?_)
      cases hM : mkOk x y sx sy
      · skip
        obtain ⟨E, hE, hEb⟩ : ∃ E, mkE x y sx sy = E ∧ (E != 0) = true := ⟨_, rfl, by rw [bne_iff_ne]; intro h; rw [mkE_ok.1 h] at hM; cases hM⟩
        have u_8 := u_7
        have v_8 := v_7
        have inv_8 := inv_7
        refine (make_no inv_8.1 Bx By hx hy hM hE).mono ?_; rintro e w_8 ⟨rfl, hb_8⟩
        have uc_8 := u_8.below hb_8 u_8.lt
        have vc_8 := v_8.below hb_8 v_8.lt
        have invc_8 := inv_8.call hb_8
        clear u_8 v_8 inv_8 hb_8
        have u_9 := (uc_8.alloc (.cells rN 53))
        have v_9 := (vc_8.alloc (.cells rN 53))
        have m_9 := (Wd.Blk.new w_8 53 rN)
        have inv_9 := (invc_8.alloc (.cells rN 53))
        have hez : (binOp .eql 53 (.agg rN) (.agg rN)).run Tryd.prog = fun w => .ok (.bool true) w := funext fun w => eq_self 0 0 0 St.nil St.nil w
        go_wp2_with (first | refine wpList_store_new rfl 53 _ _ rfl rfl w_8.heap.size rN rfl rfl _ z19 w_8 rfl rfl rfl (by kernel_rfl) (by kernel_rfl) ?_ | refine wpList_row_g rfl 53 _ rfl _ rfl _ _ _ _ m_9 Tryd.underlying53 rfl (by kernel_rfl) ?_)
        go_ret
        exact ⟨rfl, inv_9.2⟩
      · skip
        obtain ⟨mb, md, hmk, hmo, hmc, hpl, hpo⟩ := m_pack Bx By hx hy hM
        have u_8 := u_7
        have v_8 := v_7
        have inv_8 := inv_7
        refine (hmk _ inv_8.1).mono ?_; rintro e w_8 ⟨rfl, hb_8⟩
        have uc_8 := u_8.below hb_8 u_8.lt
        have vc_8 := v_8.below hb_8 v_8.lt
        have invc_8 := inv_8.call hb_8
        clear u_8 v_8 inv_8 hb_8
        have u_9 := (uc_8.alloc (.cells (rcA mb 0 md sx sy) 53))
        have v_9 := (vc_8.alloc (.cells (rcA mb 0 md sx sy) 53))
        have m_9 := (Wd.Blk.new w_8 53 (rcA mb 0 md sx sy))
        have inv_9 := (invc_8.alloc (.cells (rcA mb 0 md sx sy) 53))
        go_wp2_with (first | refine wpList_store_new rfl 53 _ _ rfl rfl w_8.heap.size (rcA mb 0 md sx sy) rfl rfl _ z19 w_8 rfl rfl rfl (by kernel_rfl) (by kernel_rfl) ?_ | refine wpList_row_g rfl 53 _ rfl _ rfl _ _ _ _ m_9 Tryd.underlying53 rfl (by kernel_rfl) ?_)
        have u_10 := u_9
        have v_10 := v_9
        have m_10 := m_9
        have inv_10 := inv_9
        refine (hmo _).mono ?_; rintro e w_10 ⟨rfl, hb_10⟩
        have uc_10 := u_10.below hb_10 u_10.lt
        have vc_10 := v_10.below hb_10 v_10.lt
        have mc_10 := m_10.below hb_10 m_10.lt
        have invc_10 := inv_10.call hb_10
        clear u_10 v_10 m_10 inv_10 hb_10
        go_wp2_with fail
        have u_11 := uc_10
        have v_11 := vc_10
        have m_11 := mc_10
        have inv_11 := invc_10
        refine (hpl _).mono ?_; rintro e w_11 ⟨rfl, hb_11⟩
        have uc_11 := u_11.below hb_11 u_11.lt
        have vc_11 := v_11.below hb_11 v_11.lt
        have mc_11 := m_11.below hb_11 m_11.lt
        have invc_11 := inv_11.call hb_11
        clear u_11 v_11 m_11 inv_11 hb_11
        have u_12 := (uc_11.alloc (.cells (rcA mb 0 0 St.nil St.nil) 53))
        have v_12 := (vc_11.alloc (.cells (rcA mb 0 0 St.nil St.nil) 53))
        have m_12 := (mc_11.alloc (.cells (rcA mb 0 0 St.nil St.nil) 53))
        have n_12 := (Wd.Blk.new w_11 53 (rcA mb 0 0 St.nil St.nil))
        have inv_12 := (invc_11.alloc (.cells (rcA mb 0 0 St.nil St.nil) 53))
        go_wp2_with (first | refine wpList_store_new rfl 53 _ _ rfl rfl w_11.heap.size (rcA mb 0 0 St.nil St.nil) rfl rfl _ z19 w_11 rfl rfl rfl (by kernel_rfl) (by kernel_rfl) ?_ | refine wpList_row_g rfl 53 _ rfl _ rfl _ _ _ _ n_12 Tryd.underlying53 rfl (by kernel_rfl) ?_)
        have u_13 := u_12
        have v_13 := v_12
        have m_13 := m_12
        have n_13 := n_12
        have inv_13 := inv_12
        refine (hpo _).mono ?_; rintro e w_13 ⟨rfl, hb_13⟩
        have uc_13 := u_13.below hb_13 u_13.lt
        have vc_13 := v_13.below hb_13 v_13.lt
        have mc_13 := m_13.below hb_13 m_13.lt
        have nc_13 := n_13.below hb_13 n_13.lt
        have invc_13 := inv_13.call hb_13
        clear u_13 v_13 m_13 n_13 inv_13 hb_13
        go_wp2_with (refine wpList_row_g rfl 53 _ rfl _ rfl _ _ _ _ mc_13 Tryd.underlying53 rfl (by kernel_rfl) ?_)
        have u_14 := uc_13
        have v_14 := vc_13
        have m_14 := mc_13
        have n_14 := nc_13
        have inv_14 := invc_13
        refine (hmc _ inv_14.1).mono ?_; rintro e w_14 ⟨rfl, hb_14⟩
        have uc_14 := u_14.below hb_14 u_14.lt
        have vc_14 := v_14.below hb_14 v_14.lt
        have mc_14 := m_14.below hb_14 m_14.lt
        have nc_14 := n_14.below hb_14 n_14.lt
        have invc_14 := inv_14.call hb_14
        clear u_14 v_14 m_14 n_14 inv_14 hb_14
        have u_15 := uc_14
        have v_15 := vc_14
        have m_15 := mc_14
        have n_15 := nc_14
        have inv_15 := invc_14
        have hxx : (binOp .eql 41 (.agg (sA sx)) (.agg (sA sx))).run Tryd.prog = fun w => .ok (.bool true) w := funext fun w => eqs_self sx w
        have hyy : (binOp .eql 41 (.agg (sA sy)) (.agg (sA sy))).run Tryd.prog = fun w => .ok (.bool true) w := funext fun w => eqs_self sy w
        have hzz : (binOp .eql 41 (.agg (sA St.nil)) (.agg #[.int .u16 0, .int .u16 0, .int .u16 0, .int .u16 0, .int .u16 0, .int .u16 0, .int .u16 0, .int .u16 0])).run Tryd.prog = fun w => .ok (.bool true) w := funext fun w => eqs_self St.nil w
        go_wp2_with (first | refine wpList_seg_g rfl 41 _ rfl _ 3 (sA sx) rfl _ _ _ _ m_15 Tryd.underlying41 rfl (by kernel_rfl) (by kernel_rfl) ?_ | refine wpList_seg_g rfl 41 _ rfl _ 11 (sA sy) rfl _ _ _ _ m_15 Tryd.underlying41 rfl (by kernel_rfl) (by kernel_rfl) ?_ | refine wpList_seg_g rfl 41 _ rfl _ 3 (sA St.nil) rfl _ _ _ _ n_15 Tryd.underlying41 rfl (by kernel_rfl) (by kernel_rfl) ?_ | refine wpList_row_g rfl 41 _ rfl _ rfl _ _ _ _ u_15 Tryd.underlying41 rfl (by kernel_rfl) ?_ | refine wpList_row_g rfl 41 _ rfl _ rfl _ _ _ _ v_15 Tryd.underlying41 rfl (by kernel_rfl) ?_)
        go_ret
        exact ⟨rfl, inv_15.2⟩
    · skip
      obtain ⟨b1, c1, d1, p1, q1, B1, h1, h2, h3, hof, hby⟩ := s_pack hS
      have u_6 := uc_5
      have v_6 := vc_5
      have inv_6 := invc_5
      refine (hof _ inv_6.1).mono ?_; rintro e w_6 ⟨rfl, hb_6⟩
      have uc_6 := u_6.below hb_6 u_6.lt
      have vc_6 := v_6.below hb_6 v_6.lt
      have invc_6 := inv_6.call hb_6
      clear u_6 v_6 inv_6 hb_6
      have u_7 := (uc_6.alloc (.cells (rcA b1 c1 d1 p1 q1) 53))
      have v_7 := (vc_6.alloc (.cells (rcA b1 c1 d1 p1 q1) 53))
      have x_7 := (Wd.Blk.new w_6 53 (rcA b1 c1 d1 p1 q1))
      have inv_7 := (invc_6.alloc (.cells (rcA b1 c1 d1 p1 q1) 53))
      go_wp2_with (first | refine wpList_store_new rfl 53 _ _ rfl rfl w_6.heap.size (rcA b1 c1 d1 p1 q1) rfl rfl _ z19 w_6 rfl rfl rfl (by kernel_rfl) (by kernel_rfl) ?_ | refine wpList_row_g rfl 53 _ rfl _ rfl _ _ _ _ x_7 Tryd.underlying53 rfl (by kernel_rfl) ?_)
      have u_8 := u_7
      have v_8 := v_7
      have x_8 := x_7
      have inv_8 := inv_7
      refine (hby _).mono ?_; rintro e w_8 ⟨rfl, hb_8⟩
      have uc_8 := u_8.below hb_8 u_8.lt
      have vc_8 := v_8.below hb_8 v_8.lt
      have xc_8 := x_8.below hb_8 x_8.lt
      have invc_8 := inv_8.call hb_8
      clear u_8 v_8 x_8 inv_8 hb_8
      have hsl : (s.toList != s.toList) = false := by simp
      go_wp2_with (refine wpList_row_g rfl 53 _ rfl _ rfl _ _ _ _ xc_8 Tryd.underlying53 rfl (by kernel_rfl) ?_)
      clear hsl
      have u_9 := uc_8
      have v_9 := vc_8
      have x_9 := xc_8
      have inv_9 := invc_8
      refine (chk_at inv_9.1 B1 h1).mono ?_; rintro e w_9 ⟨rfl, hb_9⟩
      have uc_9 := u_9.below hb_9 u_9.lt
      have vc_9 := v_9.below hb_9 v_9.lt
      have xc_9 := x_9.below hb_9 x_9.lt
      have invc_9 := inv_9.call hb_9
      clear u_9 v_9 x_9 inv_9 hb_9
      go_wp2_with (refine wpList_seg_g rfl 41 _ rfl _ 3 (sA p1) rfl _ _ _ _ xc_9 Tryd.underlying41 rfl (by kernel_rfl) (by kernel_rfl) ?_)
      have u_10 := uc_9
      have v_10 := vc_9
      have x_10 := xc_9
      have inv_10 := invc_9
      refine (Stp.chk_at inv_10.1 B1.p h2).mono ?_; rintro e w_10 ⟨rfl, hb_10⟩
      have uc_10 := u_10.below hb_10 u_10.lt
      have vc_10 := v_10.below hb_10 v_10.lt
      have xc_10 := x_10.below hb_10 x_10.lt
      have invc_10 := inv_10.call hb_10
      clear u_10 v_10 x_10 inv_10 hb_10
      go_wp2_with (refine wpList_seg_g rfl 41 _ rfl _ 11 (sA q1) rfl _ _ _ _ xc_10 Tryd.underlying41 rfl (by kernel_rfl) (by kernel_rfl) ?_)
      have u_11 := uc_10
      have v_11 := vc_10
      have x_11 := xc_10
      have inv_11 := invc_10
      refine (Stp.chk_at inv_11.1 B1.q h3).mono ?_; rintro e w_11 ⟨rfl, hb_11⟩
      have uc_11 := u_11.below hb_11 u_11.lt
      have vc_11 := v_11.below hb_11 v_11.lt
      have xc_11 := x_11.below hb_11 x_11.lt
      have invc_11 := inv_11.call hb_11
      clear u_11 v_11 x_11 inv_11 hb_11
      go_wp2_with (first | refine wpList_row_g rfl 41 _ rfl _ rfl _ _ _ _ uc_11 Tryd.underlying41 rfl (by kernel_rfl) ?_ | refine wpList_row_g rfl 41 _ rfl _ rfl _ _ _ _ vc_11 Tryd.underlying41 rfl (by kernel_rfl) ?_)
      cases hM : mkOk x y sx sy
      · skip
        obtain ⟨E, hE, hEb⟩ : ∃ E, mkE x y sx sy = E ∧ (E != 0) = true := ⟨_, rfl, by rw [bne_iff_ne]; intro h; rw [mkE_ok.1 h] at hM; cases hM⟩
        have u_12 := uc_11
        have v_12 := vc_11
        have inv_12 := invc_11
        refine (make_no inv_12.1 Bx By hx hy hM hE).mono ?_; rintro e w_12 ⟨rfl, hb_12⟩
        have uc_12 := u_12.below hb_12 u_12.lt
        have vc_12 := v_12.below hb_12 v_12.lt
        have invc_12 := inv_12.call hb_12
        clear u_12 v_12 inv_12 hb_12
        have u_13 := (uc_12.alloc (.cells rN 53))
        have v_13 := (vc_12.alloc (.cells rN 53))
        have m_13 := (Wd.Blk.new w_12 53 rN)
        have inv_13 := (invc_12.alloc (.cells rN 53))
        have hez : (binOp .eql 53 (.agg rN) (.agg rN)).run Tryd.prog = fun w => .ok (.bool true) w := funext fun w => eq_self 0 0 0 St.nil St.nil w
        go_wp2_with (first | refine wpList_store_new rfl 53 _ _ rfl rfl w_12.heap.size rN rfl rfl _ z19 w_12 rfl rfl rfl (by kernel_rfl) (by kernel_rfl) ?_ | refine wpList_row_g rfl 53 _ rfl _ rfl _ _ _ _ m_13 Tryd.underlying53 rfl (by kernel_rfl) ?_)
        go_ret
        exact ⟨rfl, inv_13.2⟩
      · skip
        obtain ⟨mb, md, hmk, hmo, hmc, hpl, hpo⟩ := m_pack Bx By hx hy hM
        have u_12 := uc_11
        have v_12 := vc_11
        have inv_12 := invc_11
        refine (hmk _ inv_12.1).mono ?_; rintro e w_12 ⟨rfl, hb_12⟩
        have uc_12 := u_12.below hb_12 u_12.lt
        have vc_12 := v_12.below hb_12 v_12.lt
        have invc_12 := inv_12.call hb_12
        clear u_12 v_12 inv_12 hb_12
        have u_13 := (uc_12.alloc (.cells (rcA mb 0 md sx sy) 53))
        have v_13 := (vc_12.alloc (.cells (rcA mb 0 md sx sy) 53))
        have m_13 := (Wd.Blk.new w_12 53 (rcA mb 0 md sx sy))
        have inv_13 := (invc_12.alloc (.cells (rcA mb 0 md sx sy) 53))
        go_wp2_with (first | refine wpList_store_new rfl 53 _ _ rfl rfl w_12.heap.size (rcA mb 0 md sx sy) rfl rfl _ z19 w_12 rfl rfl rfl (by kernel_rfl) (by kernel_rfl) ?_ | refine wpList_row_g rfl 53 _ rfl _ rfl _ _ _ _ m_13 Tryd.underlying53 rfl (by kernel_rfl) ?_)
        have u_14 := u_13
        have v_14 := v_13
        have m_14 := m_13
        have inv_14 := inv_13
        refine (hmo _).mono ?_; rintro e w_14 ⟨rfl, hb_14⟩
        have uc_14 := u_14.below hb_14 u_14.lt
        have vc_14 := v_14.below hb_14 v_14.lt
        have mc_14 := m_14.below hb_14 m_14.lt
        have invc_14 := inv_14.call hb_14
        clear u_14 v_14 m_14 inv_14 hb_14
        go_wp2_with fail
        have u_15 := uc_14
        have v_15 := vc_14
        have m_15 := mc_14
        have inv_15 := invc_14
        refine (hpl _).mono ?_; rintro e w_15 ⟨rfl, hb_15⟩
        have uc_15 := u_15.below hb_15 u_15.lt
        have vc_15 := v_15.below hb_15 v_15.lt
        have mc_15 := m_15.below hb_15 m_15.lt
        have invc_15 := inv_15.call hb_15
        clear u_15 v_15 m_15 inv_15 hb_15
        have u_16 := (uc_15.alloc (.cells (rcA mb 0 0 St.nil St.nil) 53))
        have v_16 := (vc_15.alloc (.cells (rcA mb 0 0 St.nil St.nil) 53))
        have m_16 := (mc_15.alloc (.cells (rcA mb 0 0 St.nil St.nil) 53))
        have n_16 := (Wd.Blk.new w_15 53 (rcA mb 0 0 St.nil St.nil))
        have inv_16 := (invc_15.alloc (.cells (rcA mb 0 0 St.nil St.nil) 53))
        go_wp2_with (first | refine wpList_store_new rfl 53 _ _ rfl rfl w_15.heap.size (rcA mb 0 0 St.nil St.nil) rfl rfl _ z19 w_15 rfl rfl rfl (by kernel_rfl) (by kernel_rfl) ?_ | refine wpList_row_g rfl 53 _ rfl _ rfl _ _ _ _ n_16 Tryd.underlying53 rfl (by kernel_rfl) ?_)
        have u_17 := u_16
        have v_17 := v_16
        have m_17 := m_16
        have n_17 := n_16
        have inv_17 := inv_16
        refine (hpo _).mono ?_; rintro e w_17 ⟨rfl, hb_17⟩
        have uc_17 := u_17.below hb_17 u_17.lt
        have vc_17 := v_17.below hb_17 v_17.lt
        have mc_17 := m_17.below hb_17 m_17.lt
        have nc_17 := n_17.below hb_17 n_17.lt
        have invc_17 := inv_17.call hb_17
        clear u_17 v_17 m_17 n_17 inv_17 hb_17
        go_wp2_with (refine wpList_row_g rfl 53 _ rfl _ rfl _ _ _ _ mc_17 Tryd.underlying53 rfl (by kernel_rfl) ?_)
        have u_18 := uc_17
        have v_18 := vc_17
        have m_18 := mc_17
        have n_18 := nc_17
        have inv_18 := invc_17
        refine (hmc _ inv_18.1).mono ?_; rintro e w_18 ⟨rfl, hb_18⟩
        have uc_18 := u_18.below hb_18 u_18.lt
        have vc_18 := v_18.below hb_18 v_18.lt
        have mc_18 := m_18.below hb_18 m_18.lt
        have nc_18 := n_18.below hb_18 n_18.lt
        have invc_18 := inv_18.call hb_18
        clear u_18 v_18 m_18 n_18 inv_18 hb_18
        have u_19 := uc_18
        have v_19 := vc_18
        have m_19 := mc_18
        have n_19 := nc_18
        have inv_19 := invc_18
        have hxx : (binOp .eql 41 (.agg (sA sx)) (.agg (sA sx))).run Tryd.prog = fun w => .ok (.bool true) w := funext fun w => eqs_self sx w
        have hyy : (binOp .eql 41 (.agg (sA sy)) (.agg (sA sy))).run Tryd.prog = fun w => .ok (.bool true) w := funext fun w => eqs_self sy w
        have hzz : (binOp .eql 41 (.agg (sA St.nil)) (.agg #[.int .u16 0, .int .u16 0, .int .u16 0, .int .u16 0, .int .u16 0, .int .u16 0, .int .u16 0, .int .u16 0])).run Tryd.prog = fun w => .ok (.bool true) w := funext fun w => eqs_self St.nil w
        go_wp2_with (first | refine wpList_seg_g rfl 41 _ rfl _ 3 (sA sx) rfl _ _ _ _ m_19 Tryd.underlying41 rfl (by kernel_rfl) (by kernel_rfl) ?_ | refine wpList_seg_g rfl 41 _ rfl _ 11 (sA sy) rfl _ _ _ _ m_19 Tryd.underlying41 rfl (by kernel_rfl) (by kernel_rfl) ?_ | refine wpList_seg_g rfl 41 _ rfl _ 3 (sA St.nil) rfl _ _ _ _ n_19 Tryd.underlying41 rfl (by kernel_rfl) (by kernel_rfl) ?_ | refine wpList_row_g rfl 41 _ rfl _ rfl _ _ _ _ u_19 Tryd.underlying41 rfl (by kernel_rfl) ?_ | refine wpList_row_g rfl 41 _ rfl _ rfl _ _ _ _ v_19 Tryd.underlying41 rfl (by kernel_rfl) ?_)
        go_ret
        exact ⟨rfl, inv_19.2⟩
end Go.Proofs.YtcjjgfejamddjaaDoor.Rec
