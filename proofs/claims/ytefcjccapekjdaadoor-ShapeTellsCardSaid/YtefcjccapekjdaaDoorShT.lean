/-
  ShapeTells, WALKED.
-/
import Derived.Test.YtefcjccapekjdaaDoorShV
import Derived.Test.YtefcjccapekjdaaDoorShY
import Derived.Test.YtefcjccapekjdaaDoorShZ
import Derived.Deep.RegionHeld3
import Derived.Deep.DrawnRows
namespace Go.Proofs.YtefcjccapekjdaaDoor.Sh
open Go.ChangeShapes Go.WideShapes Go.ChangeAt Go.RowKit
open Go.Proofs.YtefcjccapekjdaaDoor
open Go.Proofs.YtefcjccapekjdaaDoor.Wd
open Go.Proofs.YtefcjccapekjdaaDoor.Rec
open Go.Proofs.YtefcjccapekjdaaDoor.Yr
open Go.Proofs.YtefcjccapekjdaaDoor.Tb
open Go.Proofs.YtefcjccapekjdaaDoor.Civ (Tab Inv)
open Go.Proofs.YtefcjccapekjdaaDoor.Dy
set_option linter.unusedVariables false
set_option linter.unusedSimpArgs false
attribute [local go_sem ↓] Go.wp_at_zero Go.wp_at_succ
attribute [local go_sem ↓] ldR_sem ldS_sem
attribute [local go_sem] ldSem_run
theorem mk_mk {w W : World} {np gs go gr gq ga gb : Nat} {A1 A2 : Option Addr} {P : List St} {s o x : St} {r q : Rc} (iv : Inv w W) (h1 : Stamps W W.heap.size A1 np P) (h2 : Stamps W W.heap.size A2 np P) (hs : Blk W gs 24 (sA s)) (ho : Blk W go 24 (sA o)) (hr : Blk W gr 26 (rcA r.b r.c r.d r.p r.q)) (hq : Blk W gq 26 (rcA q.b q.c q.d q.p q.q)) (ha : Blk W ga 24 (sA x)) (hb : Blk W gb 24 (sA x)) :
    Inv w W ∧ Stamps W W.heap.size A1 np P ∧ Stamps W W.heap.size A2 np P ∧ Blk W gs 24 (sA s) ∧ Blk W go 24 (sA o) ∧ Blk W gr 26 (rcA r.b r.c r.d r.p r.q) ∧ Blk W gq 26 (rcA q.b q.c q.d q.p q.q) ∧ Blk W ga 24 (sA x) ∧ Blk W gb 24 (sA x) ∧ ldT 24 (.pointer (some ⟨gs, 0, none⟩)) W = some (sA s) ∧ ldT 24 (.pointer (some ⟨go, 0, none⟩)) W = some (sA o) ∧ ldT 26 (.pointer (some ⟨gr, 0, none⟩)) W = some (rcA r.b r.c r.d r.p r.q) ∧ ldT 26 (.pointer (some ⟨gq, 0, none⟩)) W = some (rcA q.b q.c q.d q.p q.q) ∧ ldT 24 (.pointer (some ⟨ga, 0, none⟩)) W = some (sA x) ∧ ldT 24 (.pointer (some ⟨gb, 0, none⟩)) W = some (sA x) :=
  ⟨iv, h1, h2, hs, ho, hr, hq, ha, hb, ldT_of (ld_seg hs Tryd.underlying24 rfl (by kernel_rfl) (by kernel_rfl)), ldT_of (ld_seg ho Tryd.underlying24 rfl (by kernel_rfl) (by kernel_rfl)), ldT_of (ld_seg hr Tryd.underlying26 rfl (by kernel_rfl) (by kernel_rfl)), ldT_of (ld_seg hq Tryd.underlying26 rfl (by kernel_rfl) (by kernel_rfl)), ldT_of (ld_seg ha Tryd.underlying24 rfl (by kernel_rfl) (by kernel_rfl)), ldT_of (ld_seg hb Tryd.underlying24 rfl (by kernel_rfl) (by kernel_rfl))⟩
theorem mk_on {w W W2 : World} {np gs go gr gq ga gb : Nat} {A1 A2 : Option Addr} {P : List St} {s o x : St} {r q : Rc} (h : Inv w W ∧ Stamps W W.heap.size A1 np P ∧ Stamps W W.heap.size A2 np P ∧ Blk W gs 24 (sA s) ∧ Blk W go 24 (sA o) ∧ Blk W gr 26 (rcA r.b r.c r.d r.p r.q) ∧ Blk W gq 26 (rcA q.b q.c q.d q.p q.q) ∧ Blk W ga 24 (sA x) ∧ Blk W gb 24 (sA x) ∧ ldT 24 (.pointer (some ⟨gs, 0, none⟩)) W = some (sA s) ∧ ldT 24 (.pointer (some ⟨go, 0, none⟩)) W = some (sA o) ∧ ldT 26 (.pointer (some ⟨gr, 0, none⟩)) W = some (rcA r.b r.c r.d r.p r.q) ∧ ldT 26 (.pointer (some ⟨gq, 0, none⟩)) W = some (rcA q.b q.c q.d q.p q.q) ∧ ldT 24 (.pointer (some ⟨ga, 0, none⟩)) W = some (sA x) ∧ ldT 24 (.pointer (some ⟨gb, 0, none⟩)) W = some (sA x)) (hbx : Below W.heap.size W W2) :
    Inv w W2 ∧ Stamps W2 W2.heap.size A1 np P ∧ Stamps W2 W2.heap.size A2 np P ∧ Blk W2 gs 24 (sA s) ∧ Blk W2 go 24 (sA o) ∧ Blk W2 gr 26 (rcA r.b r.c r.d r.p r.q) ∧ Blk W2 gq 26 (rcA q.b q.c q.d q.p q.q) ∧ Blk W2 ga 24 (sA x) ∧ Blk W2 gb 24 (sA x) ∧ ldT 24 (.pointer (some ⟨gs, 0, none⟩)) W2 = some (sA s) ∧ ldT 24 (.pointer (some ⟨go, 0, none⟩)) W2 = some (sA o) ∧ ldT 26 (.pointer (some ⟨gr, 0, none⟩)) W2 = some (rcA r.b r.c r.d r.p r.q) ∧ ldT 26 (.pointer (some ⟨gq, 0, none⟩)) W2 = some (rcA q.b q.c q.d q.p q.q) ∧ ldT 24 (.pointer (some ⟨ga, 0, none⟩)) W2 = some (sA x) ∧ ldT 24 (.pointer (some ⟨gb, 0, none⟩)) W2 = some (sA x) := by
  obtain ⟨iv, h1, h2, hs, ho, hr, hq, ha, hb, _⟩ := h
  exact mk_mk (iv.call hbx) ((h1.below hbx).more hbx.size) ((h2.below hbx).more hbx.size) (hs.below hbx hs.lt) (ho.below hbx ho.lt) (hr.below hbx hr.lt) (hq.below hbx hq.lt) (ha.below hbx ha.lt) (hb.below hbx hb.lt)
set_option maxRecDepth 100000 in
set_option maxHeartbeats 6400000 in
theorem tells_main (s o x y : St) (Y : Int) (r q z : Rc) (k n dw m sec E : Int) (bq : Bool) (P : List St) (np : Nat) (hnp : np ≤ 3) (w : World) (hT : Tab w)
    (hf1 : ∀ w, Tab w → Calls Tryd.prog 63 #[.agg (sA s), .int .i64 Y] w fun e w' => ∃ A n c, e = .returned (.tuple #[.slice A n c, .int .i64 E]) ∧ np = n ∧ Stamps w' w'.heap.size A n P ∧ Below w.heap.size w w')
    (hf2 : ∀ w, Tab w → Calls Tryd.prog 64 #[.agg (sA s), .int .i64 Y] w fun e w' => ∃ A n c, e = .returned (.tuple #[.slice A n c, .int .i64 E]) ∧ np = n ∧ Stamps w' w'.heap.size A n P ∧ Below w.heap.size w w')
    (hu1 : ∀ w, Calls Tryd.prog 65 #[dayV k n dw, .int .i64 m, .int .i64 sec] w fun e w' => e = .returned (.tuple #[.agg (sA x), .bool bq]) ∧ Below w.heap.size w w')
    (hu2 : ∀ w, Calls Tryd.prog 66 #[dayV k n dw, .int .i64 m, .int .i64 sec] w fun e w' => e = .returned (.tuple #[.agg (sA x), .bool bq]) ∧ Below w.heap.size w w')
    (hl1 : ∀ w, Tab w → Calls Tryd.prog 69 #[.agg (sA s), .agg (sA o), .int .i64 Y] w fun e w' => e = .returned (.agg (sA y)) ∧ Below w.heap.size w w')
    (hl2 : ∀ w, Tab w → Calls Tryd.prog 70 #[.agg (sA s), .agg (sA o), .int .i64 Y] w fun e w' => e = .returned (.agg (sA y)) ∧ Below w.heap.size w w')
    (hc1 : ∀ w, Tab w → Calls Tryd.prog 71 #[r.V, q.V, .int .i64 Y] w fun e w' => e = .returned z.V ∧ Below w.heap.size w w')
    (hc2 : ∀ w, Tab w → Calls Tryd.prog 72 #[r.V, q.V, .int .i64 Y] w fun e w' => e = .returned z.V ∧ Below w.heap.size w w')
    :
    Calls Tryd.prog 13 #[.agg (sA s), .agg (sA o), .int .i64 Y, r.V, q.V, dayV k n dw, .int .i64 m, .int .i64 sec] w fun e w' => e = .returned (.bool true) ∧ Below w.heap.size w w' := by
  have i0 := Inv.start hT
  have eE : (E == E) = true := by simp
  have eB : (bq == bq) = true := by simp
  have hq1 : ∀ w, (binOp .eql 24 (.agg (sA x)) (.agg (sA x))).run Tryd.prog w = .ok (.bool true) w := fun w => (eq_stt x x w).trans (by rw [show eqS x x = true from eqS_iff.2 rfl])
  have hq2 : ∀ w, (binOp .eql 24 (.agg (sA y)) (.agg (sA y))).run Tryd.prog w = .ok (.bool true) w := fun w => (eq_stt y y w).trans (by rw [show eqS y y = true from eqS_iff.2 rfl])
  have hq3 : ∀ w, (binOp .eql 26 z.V z.V).run Tryd.prog w = .ok (.bool true) w := fun w => (eq_rc z.b z.c z.d z.b z.c z.d z.p z.q z.p z.q w).trans (by rw [show eqR z.b z.c z.d z.p z.q z.b z.c z.d z.p z.q = true from eqR_iff.2 ⟨rfl, rfl, rfl, rfl, rfl⟩])
  go_enter Tryd.func13, Tryd.ntmps13
  go_wp2_with (first | refine wpList_row_g rfl 24 _ rfl _ rfl _ _ _ _ (((((Wd.Blk.new w 24 (sA s)).alloc (.cells (sA o) 24)).alloc (.cells (rcA r.b r.c r.d r.p r.q) 26)).alloc (.cells (rcA q.b q.c q.d q.p q.q) 26)).alloc (.cells #[.int .u8 k, .int .i64 n, .int .i64 dw] 93)) Tryd.underlying24 rfl (by kernel_rfl) ?_)
  have s_1 := (((((Wd.Blk.new w 24 (sA s)).alloc (.cells (sA o) 24)).alloc (.cells (rcA r.b r.c r.d r.p r.q) 26)).alloc (.cells (rcA q.b q.c q.d q.p q.q) 26)).alloc (.cells #[.int .u8 k, .int .i64 n, .int .i64 dw] 93))
  have o_1 := ((((blk_at (w.alloc (.cells (sA s) 24)) 24 (sA o) (sz1 _ _ rfl)).alloc (.cells (rcA r.b r.c r.d r.p r.q) 26)).alloc (.cells (rcA q.b q.c q.d q.p q.q) 26)).alloc (.cells #[.int .u8 k, .int .i64 n, .int .i64 dw] 93))
  have r_1 := (((blk_at ((w.alloc (.cells (sA s) 24)).alloc (.cells (sA o) 24)) 26 (rcA r.b r.c r.d r.p r.q) (sz1 _ _ (sz1 _ _ rfl))).alloc (.cells (rcA q.b q.c q.d q.p q.q) 26)).alloc (.cells #[.int .u8 k, .int .i64 n, .int .i64 dw] 93))
  have q_1 := ((blk_at (((w.alloc (.cells (sA s) 24)).alloc (.cells (sA o) 24)).alloc (.cells (rcA r.b r.c r.d r.p r.q) 26)) 26 (rcA q.b q.c q.d q.p q.q) (sz1 _ _ (sz1 _ _ (sz1 _ _ rfl)))).alloc (.cells #[.int .u8 k, .int .i64 n, .int .i64 dw] 93))
  have d_1 := (blk_at ((((w.alloc (.cells (sA s) 24)).alloc (.cells (sA o) 24)).alloc (.cells (rcA r.b r.c r.d r.p r.q) 26)).alloc (.cells (rcA q.b q.c q.d q.p q.q) 26)) 93 #[.int .u8 k, .int .i64 n, .int .i64 dw] (sz1 _ _ (sz1 _ _ (sz1 _ _ (sz1 _ _ rfl)))))
  have inv_1 := (((((i0.alloc (.cells (sA s) 24)).alloc (.cells (sA o) 24)).alloc (.cells (rcA r.b r.c r.d r.p r.q) 26)).alloc (.cells (rcA q.b q.c q.d q.p q.q) 26)).alloc (.cells #[.int .u8 k, .int .i64 n, .int .i64 dw] 93))
  refine (hf1 _ inv_1.1).mono ?_; rintro e w_1 ⟨A1, n1, c1, rfl, en1, F_1, hb_1⟩
  have sc_1 := s_1.below hb_1 s_1.lt; clear s_1
  have oc_1 := o_1.below hb_1 o_1.lt; clear o_1
  have rc_1 := r_1.below hb_1 r_1.lt; clear r_1
  have qc_1 := q_1.below hb_1 q_1.lt; clear q_1
  have dc_1 := d_1.below hb_1 d_1.lt; clear d_1
  have invc_1 := inv_1.call hb_1; clear inv_1
  subst en1
  clear hb_1
  go_wp2_with (first | refine wpList_row_g rfl 24 _ rfl _ rfl _ _ _ _ sc_1 Tryd.underlying24 rfl (by kernel_rfl) ?_)
  have s_2 := sc_1
  have o_2 := oc_1
  have r_2 := rc_1
  have q_2 := qc_1
  have d_2 := dc_1
  have inv_2 := invc_1
  refine (hf2 _ inv_2.1).mono ?_; rintro e w_2 ⟨A2, n2, c2, rfl, en2, G_1, hb_2⟩
  have sc_2 := s_2.below hb_2 s_2.lt; clear s_2
  have oc_2 := o_2.below hb_2 o_2.lt; clear o_2
  have rc_2 := r_2.below hb_2 r_2.lt; clear r_2
  have qc_2 := q_2.below hb_2 q_2.lt; clear q_2
  have dc_2 := d_2.below hb_2 d_2.lt; clear d_2
  have Fc_2 := (F_1.below hb_2).more hb_2.size; clear F_1
  have invc_2 := inv_2.call hb_2; clear inv_2
  subst en2
  clear hb_2
  go_wp2_with (first | refine wpList_row_g rfl 93 _ rfl _ rfl _ _ _ _ dc_2 Tryd.underlying93 rfl (by kernel_rfl) ?_)
  have s_3 := sc_2
  have o_3 := oc_2
  have r_3 := rc_2
  have q_3 := qc_2
  have d_3 := dc_2
  have inv_3 := invc_2
  refine (hu1 _).mono ?_; rintro e w_3 ⟨rfl, hb_3⟩
  have sc_3 := s_3.below hb_3 s_3.lt; clear s_3
  have oc_3 := o_3.below hb_3 o_3.lt; clear o_3
  have rc_3 := r_3.below hb_3 r_3.lt; clear r_3
  have qc_3 := q_3.below hb_3 q_3.lt; clear q_3
  have dc_3 := d_3.below hb_3 d_3.lt; clear d_3
  have Fc_3 := (Fc_2.below hb_3).more hb_3.size; clear Fc_2
  have Gc_3 := (G_1.below hb_3).more hb_3.size; clear G_1
  have invc_3 := inv_3.call hb_3; clear inv_3
  clear hb_3
  go_wp2_with (first | refine wpList_store_new rfl 24 _ _ rfl rfl w_3.heap.size (sA x) rfl rfl _ #[.int .u16 0, .int .u16 0, .int .u16 0, .int .u16 0, .int .u16 0, .int .u16 0, .int .u16 0, .int .u16 0] w_3 rfl rfl rfl (by kernel_rfl) (by kernel_rfl) ?_ | refine wpList_row_g rfl 93 _ rfl _ rfl _ _ _ _ (dc_3.alloc (.cells (sA x) 24)) Tryd.underlying93 rfl (by kernel_rfl) ?_)
  have s_4 := (sc_3.alloc (.cells (sA x) 24))
  have o_4 := (oc_3.alloc (.cells (sA x) 24))
  have r_4 := (rc_3.alloc (.cells (sA x) 24))
  have q_4 := (qc_3.alloc (.cells (sA x) 24))
  have d_4 := (dc_3.alloc (.cells (sA x) 24))
  have a_4 := (Wd.Blk.new w_3 24 (sA x))
  have inv_4 := (invc_3.alloc (.cells (sA x) 24))
  have Fd_4 := ((Fc_3.below (Below.alloc (Below.refl (w_3).heap.size (w_3)) (Nat.le_refl _) (.cells (sA x) 24))).more (Below.alloc (Below.refl (w_3).heap.size (w_3)) (Nat.le_refl _) (.cells (sA x) 24)).size)
  have Gd_4 := ((Gc_3.below (Below.alloc (Below.refl (w_3).heap.size (w_3)) (Nat.le_refl _) (.cells (sA x) 24))).more (Below.alloc (Below.refl (w_3).heap.size (w_3)) (Nat.le_refl _) (.cells (sA x) 24)).size)
  refine (hu2 _).mono ?_; rintro e w_4 ⟨rfl, hb_4⟩
  have sc_4 := s_4.below hb_4 s_4.lt; clear s_4
  have oc_4 := o_4.below hb_4 o_4.lt; clear o_4
  have rc_4 := r_4.below hb_4 r_4.lt; clear r_4
  have qc_4 := q_4.below hb_4 q_4.lt; clear q_4
  have dc_4 := d_4.below hb_4 d_4.lt; clear d_4
  have ac_4 := a_4.below hb_4 a_4.lt; clear a_4
  have Fc_4 := (Fd_4.below hb_4).more hb_4.size; clear Fd_4
  have Gc_4 := (Gd_4.below hb_4).more hb_4.size; clear Gd_4
  have invc_4 := inv_4.call hb_4; clear inv_4
  clear hb_4
  go_upto_region 5 with (first | refine wpList_store_new rfl 24 _ _ rfl rfl w_4.heap.size (sA x) rfl rfl _ #[.int .u16 0, .int .u16 0, .int .u16 0, .int .u16 0, .int .u16 0, .int .u16 0, .int .u16 0, .int .u16 0] w_4 rfl rfl rfl (by kernel_rfl) (by kernel_rfl) ?_)
  have s_5 := (sc_4.alloc (.cells (sA x) 24))
  have o_5 := (oc_4.alloc (.cells (sA x) 24))
  have r_5 := (rc_4.alloc (.cells (sA x) 24))
  have q_5 := (qc_4.alloc (.cells (sA x) 24))
  have d_5 := (dc_4.alloc (.cells (sA x) 24))
  have a_5 := (ac_4.alloc (.cells (sA x) 24))
  have b_5 := (Wd.Blk.new w_4 24 (sA x))
  have inv_5 := (invc_4.alloc (.cells (sA x) 24))
  have Fd_5 := ((Fc_4.below (Below.alloc (Below.refl (w_4).heap.size (w_4)) (Nat.le_refl _) (.cells (sA x) 24))).more (Below.alloc (Below.refl (w_4).heap.size (w_4)) (Nat.le_refl _) (.cells (sA x) 24)).size)
  have Gd_5 := ((Gc_4.below (Below.alloc (Below.refl (w_4).heap.size (w_4)) (Nat.le_refl _) (.cells (sA x) 24))).more (Below.alloc (Below.refl (w_4).heap.size (w_4)) (Nat.le_refl _) (.cells (sA x) 24)).size)
  have ZZ := Lib.hid (mk_mk inv_5.drew Fd_5 Gd_5 s_5 o_5 r_5 q_5 a_5 b_5)
  clear inv_5 Fd_5 Gd_5 s_5 o_5 r_5 q_5 a_5 b_5 d_5 hf1 hf2 hu1 hu2 i0
  generalize (w_4.alloc (.cells (sA x) 24)) = W at *
  generalize hggb : w_4.heap.size = gb at *
  generalize hgga : w_3.heap.size = ga at *
  generalize hggq : w.heap.size + 1 + 1 + 1 = gq at *
  generalize hggr : w.heap.size + 1 + 1 = gr at *
  generalize hggo : w.heap.size + 1 = go at *
  generalize hggs : w.heap.size = gs at *
  clear hggb hgga hggq hggr hggo hggs
  refine wp_region_held_drew (S := fun w' => Inv w w' ∧ Stamps w' w'.heap.size A1 np P ∧ Stamps w' w'.heap.size A2 np P ∧ Blk w' gs 24 (sA s) ∧ Blk w' go 24 (sA o) ∧ Blk w' gr 26 (rcA r.b r.c r.d r.p r.q) ∧ Blk w' gq 26 (rcA q.b q.c q.d q.p q.q) ∧ Blk w' ga 24 (sA x) ∧ Blk w' gb 24 (sA x) ∧ ldT 24 (.pointer (some ⟨gs, 0, none⟩)) w' = some (sA s) ∧ ldT 24 (.pointer (some ⟨go, 0, none⟩)) w' = some (sA o) ∧ ldT 26 (.pointer (some ⟨gr, 0, none⟩)) w' = some (rcA r.b r.c r.d r.p r.q) ∧ ldT 26 (.pointer (some ⟨gq, 0, none⟩)) w' = some (rcA q.b q.c q.d q.p q.q) ∧ ldT 24 (.pointer (some ⟨ga, 0, none⟩)) w' = some (sA x) ∧ ldT 24 (.pointer (some ⟨gb, 0, none⟩)) w' = some (sA x)) (by kernel_rfl) (ZZ.out) (fun hHeld => ?_)
  refine wpAnyH_ready (rs := [0]) (by kernel_rfl) (by simp) ?_
  refine AllReadyH.cons (o := { dst := some 51, op := Op.call { callee := Callee.value (Operand.func 67), args := #[], argTypes := #[] }, type := 4, pos := "law.go:36", after := #[], guard := none }) rfl (fun K hK => ?_) (AllReadyH.nil)
  go_simp
  refine (lives_any _ hHeld.1.1).mono ?_; rintro e w_51 ⟨rfl, hb_51⟩
  try go_wp2_with fail
  refine hK.out _ _ (mk_on hHeld hb_51) (fun hHeld2 => ?_)
  clear hK K hHeld; have hHeld := hHeld2; clear hHeld2
  try simp only [Act.put, List.setIfInBounds_toArray, List.set_cons_zero, List.set_cons_succ]
  refine wpAnyH_take (i := 1) (oi := { dst := some 52, op := Op.move (Operand.tmp 51), type := 4, pos := "law.go:36", after := #[{ on := 0, ground := Ground.data }, { on := 0, ground := Ground.chain }], guard := none }) (v := ?_) rfl (by kernel_rfl) (by kernel_rfl) (by kernel_rfl) (fun _ _ _ h => h) (Or.inl ⟨by rfl, ?_⟩) hHeld ?_
  rotate_left
  · intro w hSw
    try dsimp only at hSw
    go_simp
    try with_reducible rfl
  try simp only [Act.put, List.setIfInBounds_toArray, List.set_cons_zero, List.set_cons_succ]
  refine wpAnyH_take (i := 2) (oi := { dst := some 53, op := Op.move (Operand.tmp 17), type := 94, pos := "law.go:36", after := #[{ on := 1, ground := Ground.guard }], guard := some (1, true) }) (v := ?_) rfl (by kernel_rfl) (by kernel_rfl) (by kernel_rfl) (fun _ _ _ h => h) (Or.inl ⟨by rfl, ?_⟩) hHeld ?_
  rotate_left
  · intro w hSw
    try dsimp only at hSw
    go_simp
    try with_reducible rfl
  try simp only [Act.put, List.setIfInBounds_toArray, List.set_cons_zero, List.set_cons_succ]
  refine wpAnyH_take (i := 3) (oi := { dst := some 54, op := Op.move (Operand.tmp 19), type := 94, pos := "law.go:36", after := #[{ on := 1, ground := Ground.guard }], guard := some (1, true) }) (v := ?_) rfl (by kernel_rfl) (by kernel_rfl) (by kernel_rfl) (fun _ _ _ h => h) (Or.inl ⟨by rfl, ?_⟩) hHeld ?_
  rotate_left
  · intro w hSw
    try dsimp only at hSw
    go_simp
    try with_reducible rfl
  try simp only [Act.put, List.setIfInBounds_toArray, List.set_cons_zero, List.set_cons_succ]
  refine wpAnyH_ready (rs := [4]) (by kernel_rfl) (by simp) ?_
  refine AllReadyH.cons (o := { dst := some 55, op := Op.call { callee := Callee.value (Operand.func 68), args := #[Operand.tmp 53, Operand.tmp 54], argTypes := #[94, 94] }, type := 4, pos := "law.go:36", after := #[{ on := 2, ground := Ground.data }, { on := 3, ground := Ground.data }, { on := 1, ground := Ground.chain }, { on := 1, ground := Ground.guard }], guard := some (1, true) }) rfl (fun K hK => ?_) (AllReadyH.nil)
  go_simp
  refine (same_st _ _ np _ _ P _ hHeld.2.1 hHeld.2.2.1 (by unfold maxLen; omega)).mono ?_; rintro e w_52 ⟨rfl, hb_52⟩
  try go_wp2_with fail
  refine hK.out _ _ (mk_on hHeld hb_52) (fun hHeld2 => ?_)
  clear hK K hHeld; have hHeld := hHeld2; clear hHeld2
  try simp only [Act.put, List.setIfInBounds_toArray, List.set_cons_zero, List.set_cons_succ]
  refine wpAnyH_take (i := 5) (oi := { dst := some 56, op := Op.pick (Operand.tmp 52) (Operand.tmp 55) (Operand.const (Value.bool false)), type := 4, pos := "law.go:36", after := #[{ on := 1, ground := Ground.data }, { on := 4, ground := Ground.data }], guard := none }) (v := ?_) rfl (by kernel_rfl) (by kernel_rfl) (by kernel_rfl) (fun _ _ _ h => h) (Or.inl ⟨by rfl, ?_⟩) hHeld ?_
  rotate_left
  · intro w hSw
    try dsimp only at hSw
    go_simp
    try with_reducible rfl
  try simp only [Act.put, List.setIfInBounds_toArray, List.set_cons_zero, List.set_cons_succ]
  refine wpAnyH_take (i := 6) (oi := { dst := some 57, op := Op.move (Operand.tmp 56), type := 4, pos := "law.go:36", after := #[{ on := 5, ground := Ground.data }, { on := 4, ground := Ground.chain }], guard := none }) (v := ?_) rfl (by kernel_rfl) (by kernel_rfl) (by kernel_rfl) (fun _ _ _ h => h) (Or.inl ⟨by rfl, ?_⟩) hHeld ?_
  rotate_left
  · intro w hSw
    try dsimp only at hSw
    go_simp
    try with_reducible rfl
  try simp only [Act.put, List.setIfInBounds_toArray, List.set_cons_zero, List.set_cons_succ]
  refine wpAnyH_take (i := 7) (oi := { dst := some 58, op := Op.move (Operand.tmp 18), type := 30, pos := "law.go:36", after := #[{ on := 6, ground := Ground.guard }], guard := some (6, true) }) (v := ?_) rfl (by kernel_rfl) (by kernel_rfl) (by kernel_rfl) (fun _ _ _ h => h) (Or.inl ⟨by rfl, ?_⟩) hHeld ?_
  rotate_left
  · intro w hSw
    try dsimp only at hSw
    go_simp
    try with_reducible rfl
  try simp only [Act.put, List.setIfInBounds_toArray, List.set_cons_zero, List.set_cons_succ]
  refine wpAnyH_take (i := 8) (oi := { dst := some 59, op := Op.move (Operand.tmp 20), type := 30, pos := "law.go:36", after := #[{ on := 6, ground := Ground.guard }], guard := some (6, true) }) (v := ?_) rfl (by kernel_rfl) (by kernel_rfl) (by kernel_rfl) (fun _ _ _ h => h) (Or.inl ⟨by rfl, ?_⟩) hHeld ?_
  rotate_left
  · intro w hSw
    try dsimp only at hSw
    go_simp
    try with_reducible rfl
  try simp only [Act.put, List.setIfInBounds_toArray, List.set_cons_zero, List.set_cons_succ]
  refine wpAnyH_take (i := 9) (oi := { dst := some 60, op := Op.binOp BinOp.eql 30 (Operand.tmp 58) (Operand.tmp 59) 30, type := 4, pos := "law.go:36", after := #[{ on := 7, ground := Ground.data }, { on := 8, ground := Ground.data }, { on := 6, ground := Ground.guard }], guard := some (6, true) }) (v := ?_) rfl (by kernel_rfl) (by kernel_rfl) (by kernel_rfl) (fun _ _ _ h => h) (Or.inl ⟨by rfl, ?_⟩) hHeld ?_
  rotate_left
  · intro w hSw
    try dsimp only at hSw
    go_simp
    try with_reducible rfl
  try simp only [Act.put, List.setIfInBounds_toArray, List.set_cons_zero, List.set_cons_succ]
  refine wpAnyH_take (i := 10) (oi := { dst := some 61, op := Op.pick (Operand.tmp 57) (Operand.tmp 60) (Operand.const (Value.bool false)), type := 4, pos := "law.go:36", after := #[{ on := 6, ground := Ground.data }, { on := 9, ground := Ground.data }], guard := none }) (v := ?_) rfl (by kernel_rfl) (by kernel_rfl) (by kernel_rfl) (fun _ _ _ h => h) (Or.inl ⟨by rfl, ?_⟩) hHeld ?_
  rotate_left
  · intro w hSw
    try dsimp only at hSw
    go_simp
    try with_reducible rfl
  try simp only [Act.put, List.setIfInBounds_toArray, List.set_cons_zero, List.set_cons_succ]
  refine wpAnyH_take (i := 11) (oi := { dst := some 62, op := Op.move (Operand.tmp 61), type := 4, pos := "law.go:36", after := #[{ on := 10, ground := Ground.data }, { on := 6, ground := Ground.chain }], guard := none }) (v := ?_) rfl (by kernel_rfl) (by kernel_rfl) (by kernel_rfl) (fun _ _ _ h => h) (Or.inl ⟨by rfl, ?_⟩) hHeld ?_
  rotate_left
  · intro w hSw
    try dsimp only at hSw
    go_simp
    try with_reducible rfl
  try simp only [Act.put, List.setIfInBounds_toArray, List.set_cons_zero, List.set_cons_succ]
  refine wpAnyH_take (i := 12) (oi := { dst := some 63, op := Op.load 24 (Operand.tmp 21), type := 24, pos := "law.go:36", after := #[{ on := 11, ground := Ground.guard }], guard := some (11, true) }) (v := ?_) rfl (by kernel_rfl) (by kernel_rfl) (by kernel_rfl) (fun _ _ _ h => h) (Or.inl ⟨by rfl, ?_⟩) hHeld ?_
  rotate_left
  · intro w hSw
    try dsimp only at hSw
    go_simp
    try with_reducible rfl
  try simp only [Act.put, List.setIfInBounds_toArray, List.set_cons_zero, List.set_cons_succ]
  refine wpAnyH_take (i := 13) (oi := { dst := some 64, op := Op.load 24 (Operand.tmp 23), type := 24, pos := "law.go:36", after := #[{ on := 11, ground := Ground.guard }], guard := some (11, true) }) (v := ?_) rfl (by kernel_rfl) (by kernel_rfl) (by kernel_rfl) (fun _ _ _ h => h) (Or.inl ⟨by rfl, ?_⟩) hHeld ?_
  rotate_left
  · intro w hSw
    try dsimp only at hSw
    go_simp
    try with_reducible rfl
  try simp only [Act.put, List.setIfInBounds_toArray, List.set_cons_zero, List.set_cons_succ]
  refine wpAnyH_take (i := 14) (oi := { dst := some 65, op := Op.binOp BinOp.eql 24 (Operand.tmp 63) (Operand.tmp 64) 24, type := 4, pos := "law.go:36", after := #[{ on := 12, ground := Ground.data }, { on := 13, ground := Ground.data }, { on := 11, ground := Ground.guard }], guard := some (11, true) }) (v := ?_) rfl (by kernel_rfl) (by kernel_rfl) (by kernel_rfl) (fun _ _ _ h => h) (Or.inl ⟨by rfl, ?_⟩) hHeld ?_
  rotate_left
  · intro w hSw
    try dsimp only at hSw
    go_simp
    try with_reducible rfl
  try simp only [Act.put, List.setIfInBounds_toArray, List.set_cons_zero, List.set_cons_succ]
  refine wpAnyH_take (i := 15) (oi := { dst := some 66, op := Op.pick (Operand.tmp 62) (Operand.tmp 65) (Operand.const (Value.bool false)), type := 4, pos := "law.go:36", after := #[{ on := 11, ground := Ground.data }, { on := 14, ground := Ground.data }], guard := none }) (v := ?_) rfl (by kernel_rfl) (by kernel_rfl) (by kernel_rfl) (fun _ _ _ h => h) (Or.inl ⟨by rfl, ?_⟩) hHeld ?_
  rotate_left
  · intro w hSw
    try dsimp only at hSw
    go_simp
    try with_reducible rfl
  try simp only [Act.put, List.setIfInBounds_toArray, List.set_cons_zero, List.set_cons_succ]
  refine wpAnyH_take (i := 16) (oi := { dst := some 67, op := Op.move (Operand.tmp 66), type := 4, pos := "law.go:36", after := #[{ on := 15, ground := Ground.data }, { on := 11, ground := Ground.chain }], guard := none }) (v := ?_) rfl (by kernel_rfl) (by kernel_rfl) (by kernel_rfl) (fun _ _ _ h => h) (Or.inl ⟨by rfl, ?_⟩) hHeld ?_
  rotate_left
  · intro w hSw
    try dsimp only at hSw
    go_simp
    try with_reducible rfl
  try simp only [Act.put, List.setIfInBounds_toArray, List.set_cons_zero, List.set_cons_succ]
  refine wpAnyH_take (i := 17) (oi := { dst := some 68, op := Op.move (Operand.tmp 22), type := 4, pos := "law.go:36", after := #[{ on := 16, ground := Ground.guard }], guard := some (16, true) }) (v := ?_) rfl (by kernel_rfl) (by kernel_rfl) (by kernel_rfl) (fun _ _ _ h => h) (Or.inl ⟨by rfl, ?_⟩) hHeld ?_
  rotate_left
  · intro w hSw
    try dsimp only at hSw
    go_simp
    try with_reducible rfl
  try simp only [Act.put, List.setIfInBounds_toArray, List.set_cons_zero, List.set_cons_succ]
  refine wpAnyH_take (i := 18) (oi := { dst := some 69, op := Op.move (Operand.tmp 24), type := 4, pos := "law.go:36", after := #[{ on := 16, ground := Ground.guard }], guard := some (16, true) }) (v := ?_) rfl (by kernel_rfl) (by kernel_rfl) (by kernel_rfl) (fun _ _ _ h => h) (Or.inl ⟨by rfl, ?_⟩) hHeld ?_
  rotate_left
  · intro w hSw
    try dsimp only at hSw
    go_simp
    try with_reducible rfl
  try simp only [Act.put, List.setIfInBounds_toArray, List.set_cons_zero, List.set_cons_succ]
  refine wpAnyH_take (i := 19) (oi := { dst := some 70, op := Op.binOp BinOp.eql 4 (Operand.tmp 68) (Operand.tmp 69) 4, type := 4, pos := "law.go:36", after := #[{ on := 17, ground := Ground.data }, { on := 18, ground := Ground.data }, { on := 16, ground := Ground.guard }], guard := some (16, true) }) (v := ?_) rfl (by kernel_rfl) (by kernel_rfl) (by kernel_rfl) (fun _ _ _ h => h) (Or.inl ⟨by rfl, ?_⟩) hHeld ?_
  rotate_left
  · intro w hSw
    try dsimp only at hSw
    go_simp
    try with_reducible rfl
  try simp only [Act.put, List.setIfInBounds_toArray, List.set_cons_zero, List.set_cons_succ]
  refine wpAnyH_take (i := 20) (oi := { dst := some 71, op := Op.pick (Operand.tmp 67) (Operand.tmp 70) (Operand.const (Value.bool false)), type := 4, pos := "law.go:36", after := #[{ on := 16, ground := Ground.data }, { on := 19, ground := Ground.data }], guard := none }) (v := ?_) rfl (by kernel_rfl) (by kernel_rfl) (by kernel_rfl) (fun _ _ _ h => h) (Or.inl ⟨by rfl, ?_⟩) hHeld ?_
  rotate_left
  · intro w hSw
    try dsimp only at hSw
    go_simp
    try with_reducible rfl
  try simp only [Act.put, List.setIfInBounds_toArray, List.set_cons_zero, List.set_cons_succ]
  refine wpAnyH_take (i := 21) (oi := { dst := some 72, op := Op.move (Operand.tmp 71), type := 4, pos := "law.go:36", after := #[{ on := 20, ground := Ground.data }, { on := 16, ground := Ground.chain }], guard := none }) (v := ?_) rfl (by kernel_rfl) (by kernel_rfl) (by kernel_rfl) (fun _ _ _ h => h) (Or.inl ⟨by rfl, ?_⟩) hHeld ?_
  rotate_left
  · intro w hSw
    try dsimp only at hSw
    go_simp
    try with_reducible rfl
  try simp only [Act.put, List.setIfInBounds_toArray, List.set_cons_zero, List.set_cons_succ]
  refine wpAnyH_take (i := 22) (oi := { dst := some 73, op := Op.load 24 (Operand.tmp 8), type := 24, pos := "law.go:36", after := #[{ on := 21, ground := Ground.guard }], guard := some (21, true) }) (v := ?_) rfl (by kernel_rfl) (by kernel_rfl) (by kernel_rfl) (fun _ _ _ h => h) (Or.inl ⟨by rfl, ?_⟩) hHeld ?_
  rotate_left
  · intro w hSw
    try dsimp only at hSw
    go_simp
    try with_reducible rfl
  try simp only [Act.put, List.setIfInBounds_toArray, List.set_cons_zero, List.set_cons_succ]
  refine wpAnyH_take (i := 23) (oi := { dst := some 74, op := Op.load 24 (Operand.tmp 9), type := 24, pos := "law.go:36", after := #[{ on := 21, ground := Ground.guard }], guard := some (21, true) }) (v := ?_) rfl (by kernel_rfl) (by kernel_rfl) (by kernel_rfl) (fun _ _ _ h => h) (Or.inl ⟨by rfl, ?_⟩) hHeld ?_
  rotate_left
  · intro w hSw
    try dsimp only at hSw
    go_simp
    try with_reducible rfl
  try simp only [Act.put, List.setIfInBounds_toArray, List.set_cons_zero, List.set_cons_succ]
  refine wpAnyH_take (i := 24) (oi := { dst := some 75, op := Op.move (Operand.tmp 2), type := 3, pos := "law.go:36", after := #[{ on := 21, ground := Ground.guard }], guard := some (21, true) }) (v := ?_) rfl (by kernel_rfl) (by kernel_rfl) (by kernel_rfl) (fun _ _ _ h => h) (Or.inl ⟨by rfl, ?_⟩) hHeld ?_
  rotate_left
  · intro w hSw
    try dsimp only at hSw
    go_simp
    try with_reducible rfl
  try simp only [Act.put, List.setIfInBounds_toArray, List.set_cons_zero, List.set_cons_succ]
  refine wpAnyH_take (i := 26) (oi := { dst := some 77, op := Op.load 24 (Operand.tmp 8), type := 24, pos := "law.go:36", after := #[{ on := 21, ground := Ground.guard }], guard := some (21, true) }) (v := ?_) rfl (by kernel_rfl) (by kernel_rfl) (by kernel_rfl) (fun _ _ _ h => h) (Or.inl ⟨by rfl, ?_⟩) hHeld ?_
  rotate_left
  · intro w hSw
    try dsimp only at hSw
    go_simp
    try with_reducible rfl
  try simp only [Act.put, List.setIfInBounds_toArray, List.set_cons_zero, List.set_cons_succ]
  refine wpAnyH_take (i := 27) (oi := { dst := some 78, op := Op.load 24 (Operand.tmp 9), type := 24, pos := "law.go:36", after := #[{ on := 21, ground := Ground.guard }], guard := some (21, true) }) (v := ?_) rfl (by kernel_rfl) (by kernel_rfl) (by kernel_rfl) (fun _ _ _ h => h) (Or.inl ⟨by rfl, ?_⟩) hHeld ?_
  rotate_left
  · intro w hSw
    try dsimp only at hSw
    go_simp
    try with_reducible rfl
  try simp only [Act.put, List.setIfInBounds_toArray, List.set_cons_zero, List.set_cons_succ]
  refine wpAnyH_take (i := 28) (oi := { dst := some 79, op := Op.move (Operand.tmp 2), type := 3, pos := "law.go:36", after := #[{ on := 21, ground := Ground.guard }], guard := some (21, true) }) (v := ?_) rfl (by kernel_rfl) (by kernel_rfl) (by kernel_rfl) (fun _ _ _ h => h) (Or.inl ⟨by rfl, ?_⟩) hHeld ?_
  rotate_left
  · intro w hSw
    try dsimp only at hSw
    go_simp
    try with_reducible rfl
  try simp only [Act.put, List.setIfInBounds_toArray, List.set_cons_zero, List.set_cons_succ]
  refine wpAnyH_ready (rs := [25]) (by kernel_rfl) (by simp) ?_
  refine AllReadyH.cons (o := { dst := some 76, op := Op.call { callee := Callee.value (Operand.func 69), args := #[Operand.tmp 73, Operand.tmp 74, Operand.tmp 75], argTypes := #[24, 24, 3] }, type := 24, pos := "law.go:36", after := #[{ on := 22, ground := Ground.data }, { on := 23, ground := Ground.data }, { on := 24, ground := Ground.data }, { on := 21, ground := Ground.chain }, { on := 21, ground := Ground.guard }], guard := some (21, true) }) rfl (fun K hK => ?_) (AllReadyH.nil)
  go_simp
  refine (hl1 _ hHeld.1.1).mono ?_; rintro e w_53 ⟨rfl, hb_53⟩
  try go_wp2_with fail
  refine hK.out _ _ (mk_on hHeld hb_53) (fun hHeld2 => ?_)
  clear hK K hHeld; have hHeld := hHeld2; clear hHeld2
  try simp only [Act.put, List.setIfInBounds_toArray, List.set_cons_zero, List.set_cons_succ]
  refine wpAnyH_ready (rs := [29]) (by kernel_rfl) (by simp) ?_
  refine AllReadyH.cons (o := { dst := some 80, op := Op.call { callee := Callee.value (Operand.func 70), args := #[Operand.tmp 77, Operand.tmp 78, Operand.tmp 79], argTypes := #[24, 24, 3] }, type := 24, pos := "law.go:36", after := #[{ on := 26, ground := Ground.data }, { on := 27, ground := Ground.data }, { on := 28, ground := Ground.data }, { on := 25, ground := Ground.chain }, { on := 21, ground := Ground.guard }], guard := some (21, true) }) rfl (fun K hK => ?_) (AllReadyH.nil)
  go_simp
  refine (hl2 _ hHeld.1.1).mono ?_; rintro e w_54 ⟨rfl, hb_54⟩
  try go_wp2_with fail
  refine hK.out _ _ (mk_on hHeld hb_54) (fun hHeld2 => ?_)
  clear hK K hHeld; have hHeld := hHeld2; clear hHeld2
  try simp only [Act.put, List.setIfInBounds_toArray, List.set_cons_zero, List.set_cons_succ]
  refine wpAnyH_take (i := 30) (oi := { dst := some 81, op := Op.binOp BinOp.eql 24 (Operand.tmp 76) (Operand.tmp 80) 24, type := 4, pos := "law.go:36", after := #[{ on := 25, ground := Ground.data }, { on := 29, ground := Ground.data }, { on := 21, ground := Ground.guard }], guard := some (21, true) }) (v := ?_) rfl (by kernel_rfl) (by kernel_rfl) (by kernel_rfl) (fun _ _ _ h => h) (Or.inl ⟨by rfl, ?_⟩) hHeld ?_
  rotate_left
  · intro w hSw
    try dsimp only at hSw
    go_simp
    try with_reducible rfl
  try simp only [Act.put, List.setIfInBounds_toArray, List.set_cons_zero, List.set_cons_succ]
  refine wpAnyH_take (i := 31) (oi := { dst := some 82, op := Op.pick (Operand.tmp 72) (Operand.tmp 81) (Operand.const (Value.bool false)), type := 4, pos := "law.go:36", after := #[{ on := 21, ground := Ground.data }, { on := 30, ground := Ground.data }], guard := none }) (v := ?_) rfl (by kernel_rfl) (by kernel_rfl) (by kernel_rfl) (fun _ _ _ h => h) (Or.inl ⟨by rfl, ?_⟩) hHeld ?_
  rotate_left
  · intro w hSw
    try dsimp only at hSw
    go_simp
    try with_reducible rfl
  try simp only [Act.put, List.setIfInBounds_toArray, List.set_cons_zero, List.set_cons_succ]
  refine wpAnyH_take (i := 32) (oi := { dst := some 83, op := Op.move (Operand.tmp 82), type := 4, pos := "law.go:36", after := #[{ on := 31, ground := Ground.data }, { on := 29, ground := Ground.chain }], guard := none }) (v := ?_) rfl (by kernel_rfl) (by kernel_rfl) (by kernel_rfl) (fun _ _ _ h => h) (Or.inl ⟨by rfl, ?_⟩) hHeld ?_
  rotate_left
  · intro w hSw
    try dsimp only at hSw
    go_simp
    try with_reducible rfl
  try simp only [Act.put, List.setIfInBounds_toArray, List.set_cons_zero, List.set_cons_succ]
  refine wpAnyH_take (i := 33) (oi := { dst := some 84, op := Op.load 26 (Operand.tmp 11), type := 26, pos := "law.go:36", after := #[{ on := 32, ground := Ground.guard }], guard := some (32, true) }) (v := ?_) rfl (by kernel_rfl) (by kernel_rfl) (by kernel_rfl) (fun _ _ _ h => h) (Or.inl ⟨by rfl, ?_⟩) hHeld ?_
  rotate_left
  · intro w hSw
    try dsimp only at hSw
    go_simp
    try with_reducible rfl
  try simp only [Act.put, List.setIfInBounds_toArray, List.set_cons_zero, List.set_cons_succ]
  refine wpAnyH_take (i := 34) (oi := { dst := some 85, op := Op.load 26 (Operand.tmp 12), type := 26, pos := "law.go:36", after := #[{ on := 32, ground := Ground.guard }], guard := some (32, true) }) (v := ?_) rfl (by kernel_rfl) (by kernel_rfl) (by kernel_rfl) (fun _ _ _ h => h) (Or.inl ⟨by rfl, ?_⟩) hHeld ?_
  rotate_left
  · intro w hSw
    try dsimp only at hSw
    go_simp
    try with_reducible rfl
  try simp only [Act.put, List.setIfInBounds_toArray, List.set_cons_zero, List.set_cons_succ]
  refine wpAnyH_take (i := 35) (oi := { dst := some 86, op := Op.move (Operand.tmp 2), type := 3, pos := "law.go:36", after := #[{ on := 32, ground := Ground.guard }], guard := some (32, true) }) (v := ?_) rfl (by kernel_rfl) (by kernel_rfl) (by kernel_rfl) (fun _ _ _ h => h) (Or.inl ⟨by rfl, ?_⟩) hHeld ?_
  rotate_left
  · intro w hSw
    try dsimp only at hSw
    go_simp
    try with_reducible rfl
  try simp only [Act.put, List.setIfInBounds_toArray, List.set_cons_zero, List.set_cons_succ]
  refine wpAnyH_take (i := 37) (oi := { dst := some 88, op := Op.load 26 (Operand.tmp 11), type := 26, pos := "law.go:36", after := #[{ on := 32, ground := Ground.guard }], guard := some (32, true) }) (v := ?_) rfl (by kernel_rfl) (by kernel_rfl) (by kernel_rfl) (fun _ _ _ h => h) (Or.inl ⟨by rfl, ?_⟩) hHeld ?_
  rotate_left
  · intro w hSw
    try dsimp only at hSw
    go_simp
    try with_reducible rfl
  try simp only [Act.put, List.setIfInBounds_toArray, List.set_cons_zero, List.set_cons_succ]
  refine wpAnyH_take (i := 38) (oi := { dst := some 89, op := Op.load 26 (Operand.tmp 12), type := 26, pos := "law.go:36", after := #[{ on := 32, ground := Ground.guard }], guard := some (32, true) }) (v := ?_) rfl (by kernel_rfl) (by kernel_rfl) (by kernel_rfl) (fun _ _ _ h => h) (Or.inl ⟨by rfl, ?_⟩) hHeld ?_
  rotate_left
  · intro w hSw
    try dsimp only at hSw
    go_simp
    try with_reducible rfl
  try simp only [Act.put, List.setIfInBounds_toArray, List.set_cons_zero, List.set_cons_succ]
  refine wpAnyH_take (i := 39) (oi := { dst := some 90, op := Op.move (Operand.tmp 2), type := 3, pos := "law.go:36", after := #[{ on := 32, ground := Ground.guard }], guard := some (32, true) }) (v := ?_) rfl (by kernel_rfl) (by kernel_rfl) (by kernel_rfl) (fun _ _ _ h => h) (Or.inl ⟨by rfl, ?_⟩) hHeld ?_
  rotate_left
  · intro w hSw
    try dsimp only at hSw
    go_simp
    try with_reducible rfl
  try simp only [Act.put, List.setIfInBounds_toArray, List.set_cons_zero, List.set_cons_succ]
  refine wpAnyH_ready (rs := [36]) (by kernel_rfl) (by simp) ?_
  refine AllReadyH.cons (o := { dst := some 87, op := Op.call { callee := Callee.value (Operand.func 71), args := #[Operand.tmp 84, Operand.tmp 85, Operand.tmp 86], argTypes := #[26, 26, 3] }, type := 26, pos := "law.go:36", after := #[{ on := 33, ground := Ground.data }, { on := 34, ground := Ground.data }, { on := 35, ground := Ground.data }, { on := 32, ground := Ground.chain }, { on := 32, ground := Ground.guard }], guard := some (32, true) }) rfl (fun K hK => ?_) (AllReadyH.nil)
  go_simp
  refine (hc1 _ hHeld.1.1).mono ?_; rintro e w_55 ⟨rfl, hb_55⟩
  try go_wp2_with fail
  refine hK.out _ _ (mk_on hHeld hb_55) (fun hHeld2 => ?_)
  clear hK K hHeld; have hHeld := hHeld2; clear hHeld2
  try simp only [Act.put, List.setIfInBounds_toArray, List.set_cons_zero, List.set_cons_succ]
  refine wpAnyH_ready (rs := [40]) (by kernel_rfl) (by simp) ?_
  refine AllReadyH.cons (o := { dst := some 91, op := Op.call { callee := Callee.value (Operand.func 72), args := #[Operand.tmp 88, Operand.tmp 89, Operand.tmp 90], argTypes := #[26, 26, 3] }, type := 26, pos := "law.go:36", after := #[{ on := 37, ground := Ground.data }, { on := 38, ground := Ground.data }, { on := 39, ground := Ground.data }, { on := 36, ground := Ground.chain }, { on := 32, ground := Ground.guard }], guard := some (32, true) }) rfl (fun K hK => ?_) (AllReadyH.nil)
  go_simp
  refine (hc2 _ hHeld.1.1).mono ?_; rintro e w_56 ⟨rfl, hb_56⟩
  try go_wp2_with fail
  refine hK.out _ _ (mk_on hHeld hb_56) (fun hHeld2 => ?_)
  clear hK K hHeld; have hHeld := hHeld2; clear hHeld2
  try simp only [Act.put, List.setIfInBounds_toArray, List.set_cons_zero, List.set_cons_succ]
  refine wpAnyH_take (i := 41) (oi := { dst := some 92, op := Op.binOp BinOp.eql 26 (Operand.tmp 87) (Operand.tmp 91) 26, type := 4, pos := "law.go:36", after := #[{ on := 36, ground := Ground.data }, { on := 40, ground := Ground.data }, { on := 32, ground := Ground.guard }], guard := some (32, true) }) (v := ?_) rfl (by kernel_rfl) (by kernel_rfl) (by kernel_rfl) (fun _ _ _ h => h) (Or.inl ⟨by rfl, ?_⟩) hHeld ?_
  rotate_left
  · intro w hSw
    try dsimp only at hSw
    go_simp
    try with_reducible rfl
  try simp only [Act.put, List.setIfInBounds_toArray, List.set_cons_zero, List.set_cons_succ]
  refine wpAnyH_take (i := 42) (oi := { dst := some 93, op := Op.pick (Operand.tmp 83) (Operand.tmp 92) (Operand.const (Value.bool false)), type := 4, pos := "law.go:36", after := #[{ on := 32, ground := Ground.data }, { on := 41, ground := Ground.data }], guard := none }) (v := ?_) rfl (by kernel_rfl) (by kernel_rfl) (by kernel_rfl) (fun _ _ _ h => h) (Or.inl ⟨by rfl, ?_⟩) hHeld ?_
  rotate_left
  · intro w hSw
    try dsimp only at hSw
    go_simp
    try with_reducible rfl
  try simp only [Act.put, List.setIfInBounds_toArray, List.set_cons_zero, List.set_cons_succ]
  refine wpAnyH_take (i := 43) (oi := { dst := some 16, op := Op.assign (Operand.tmp 93), type := 4, pos := "law.go:36", after := #[{ on := 42, ground := Ground.data }, { on := 40, ground := Ground.chain }, { on := 0, ground := Ground.phase }, { on := 1, ground := Ground.phase }, { on := 2, ground := Ground.phase }, { on := 3, ground := Ground.phase }, { on := 4, ground := Ground.phase }, { on := 5, ground := Ground.phase }, { on := 6, ground := Ground.phase }, { on := 7, ground := Ground.phase }, { on := 8, ground := Ground.phase }, { on := 9, ground := Ground.phase }, { on := 10, ground := Ground.phase }, { on := 11, ground := Ground.phase }, { on := 12, ground := Ground.phase }, { on := 13, ground := Ground.phase }, { on := 14, ground := Ground.phase }, { on := 15, ground := Ground.phase }, { on := 16, ground := Ground.phase }, { on := 17, ground := Ground.phase }, { on := 18, ground := Ground.phase }, { on := 19, ground := Ground.phase }, { on := 20, ground := Ground.phase }, { on := 21, ground := Ground.phase }, { on := 22, ground := Ground.phase }, { on := 23, ground := Ground.phase }, { on := 24, ground := Ground.phase }, { on := 25, ground := Ground.phase }, { on := 26, ground := Ground.phase }, { on := 27, ground := Ground.phase }, { on := 28, ground := Ground.phase }, { on := 29, ground := Ground.phase }, { on := 30, ground := Ground.phase }, { on := 31, ground := Ground.phase }, { on := 32, ground := Ground.phase }, { on := 33, ground := Ground.phase }, { on := 34, ground := Ground.phase }, { on := 35, ground := Ground.phase }, { on := 36, ground := Ground.phase }, { on := 37, ground := Ground.phase }, { on := 38, ground := Ground.phase }, { on := 39, ground := Ground.phase }, { on := 40, ground := Ground.phase }, { on := 41, ground := Ground.phase }, { on := 42, ground := Ground.phase }], guard := none }) (v := ?_) rfl (by kernel_rfl) (by kernel_rfl) (by kernel_rfl) (fun _ _ _ h => h) (Or.inl ⟨by rfl, ?_⟩) hHeld ?_
  rotate_left
  · intro w hSw
    try dsimp only at hSw
    go_simp
    try with_reducible rfl
  try simp only [Act.put, List.setIfInBounds_toArray, List.set_cons_zero, List.set_cons_succ]
  refine wpAnyH_done (by kernel_rfl) ?_ _
  have hbel := hHeld.1.2; clear hHeld ZZ
  go_wp2_with fail
  go_ret
  exact ⟨rfl, hbel⟩
theorem tells_any (s o : St) (Y : Int) (r q : Rc) (k n dw m sec : Int) (w : World) (hT : Tab w) (Bs : s.Bd) (Bo : o.Bd) (Br : r.Bd) (Bq : q.Bd) (hk : 0 ≤ k) :
    Calls Tryd.prog 13 #[.agg (sA s), .agg (sA o), .int .i64 Y, r.V, q.V, dayV k n dw, .int .i64 m, .int .i64 sec] w fun e w' => e = .returned (.bool true) ∧ Below w.heap.size w w' := by
  refine tells_main s o (rlV k n dw m sec) (likeV s o Y) Y r q (shRec r q Y) k n dw m sec (leS s Y) (rlB k n dw m sec) (if leS s Y = 0 then fmL s Y else []) (if leS s Y = 0 then fmL s Y else []).length ?_ w hT ?_ ?_ (fun w => rule_any k n dw m sec w hk) (fun w => rrule_any k n dw m sec w hk) (fun w hT => like_any s o Y w hT Bs Bo) (fun w hT => rlike_any s o Y w hT Bs Bo) (fun w hT => rec_any r q Y w hT Br Bq) (fun w hT => rrec_any r q Y w hT Br Bq)
  · split
    · exact (fmL_len s Y).2
    · simp
  · intro w hT
    by_cases h : leS s Y = 0
    · rw [if_pos h, h]
      exact (forms_yes s Y w hT Bs h).mono fun _ _ ⟨g, n, c, he, hn, _, hr, _, hb⟩ => ⟨_, n, c, he, hn.symm, ⟨hn.symm, hr⟩, hb⟩
    · rw [if_neg h]
      exact (forms_no s Y w hT Bs h).mono fun _ _ ⟨he, hb⟩ => ⟨none, 0, 0, he, rfl, ⟨rfl, Reads.none_⟩, hb⟩
  · intro w hT
    by_cases h : leS s Y = 0
    · rw [if_pos h, h]
      exact (rforms_yes s Y w hT Bs h).mono fun _ _ ⟨g, n, c, he, hn, _, hr, _, hb⟩ => ⟨_, n, c, he, hn.symm, ⟨hn.symm, hr⟩, hb⟩
    · rw [if_neg h]
      exact (rforms_no s Y w hT Bs h).mono fun _ _ ⟨he, hb⟩ => ⟨none, 0, 0, he, rfl, ⟨rfl, Reads.none_⟩, hb⟩
end Go.Proofs.YtefcjccapekjdaaDoor.Sh
