/-
  FooterBack, walked.
-/
import Derived.Test.YtgdgkgeoigljcaaDoorFoD
import Derived.Test.YtgdgkgeoigljcaaDoorFoE
import Derived.Test.YtgdgkgeoigljcaaDoorSpE
namespace Go.Proofs.YtgdgkgeoigljcaaDoor.Fo
open Go.ChangeShapes Go.WideShapes Go.ChangeAt Go.RowKit Go.Shelf
open Go.Proofs.YtgdgkgeoigljcaaDoor
open Go.Proofs.YtgdgkgeoigljcaaDoor.Wd
open Go.Proofs.YtgdgkgeoigljcaaDoor.Rec
open Go.Proofs.YtgdgkgeoigljcaaDoor.Yr
open Go.Proofs.YtgdgkgeoigljcaaDoor.Tb
open Go.Proofs.YtgdgkgeoigljcaaDoor.Civ (Tab)
set_option linter.unusedVariables false
set_option linter.unusedSimpArgs false
theorem foT_len {r : Rc} {a b : ByteArray} (h : foE r (L a) (L b) = 0) : (foT r (L a) (L b)).length ≤ 1000 := by
  obtain ⟨h1, h2, h3, h4, h5, h6⟩ := foE_parts h
  have q1 := (name_parts h4).2.1
  have q2 : (L b).length ≤ 32 := by
    cases hz : r.p.zero with
    | true => rw [h6 hz]; decide
    | false => exact (name_parts (h5 hz)).2.1
  have n1 := name_len (L a); have n2 := name_len (L b); have o1 := off_len r.std; have o2 := off_len r.dst; have s1 := st_len r.p; have s2 := st_len r.q
  unfold foT
  simp only [List.length_append]
  split
  · simp; omega
  · simp only [List.length_append, List.length_cons]
    split
    · simp; omega
    · omega
set_option maxRecDepth 100000 in
set_option maxHeartbeats 12800000 in
theorem back_any (r : Rc) (a b s : ByteArray) (y : Int) (w : World) (hT : Tab w) (hQ : Lib.TabIs Tryd.prog w "internal/strconv.uint64pow10" .u64 Lib.pow10Tab) (hB : r.Bd) (ha : a.size ≤ maxLen) (hbb : b.size ≤ maxLen) (hs : s.size ≤ maxLen) :
    Calls Tryd.prog 4 #[r.V, .string a, .string b, .string s, .int .i64 y] w fun e w' => e = .returned (.bool true) ∧ Below w.heap.size w w' := by
  unfold maxLen at ha hbb hs
  have i0 := (Civ.Inv.start hT).alloc (.cells r.A 26)
  have r0 := Blk.new w 26 r.A
  go_enter Tryd.func4, Tryd.ntmps4
  go_upto_region 1 with fail
  generalize w.alloc (.cells r.A 26) = V0 at *
  have hr0 := r0.lt
  go_wp2_with fail
  refine (lives40_any V0 i0.1 ((Lib.tabBelow_of_tabIs hQ) _ i0.2)).mono ?_; rintro e V1 ⟨rfl, hb⟩
  have r1 := r0.below hb r0.lt; have i1 := i0.call hb; clear hb r0 i0 hr0
  by_cases h1 : 1000 < a.size
  · have h1' : (1000 : Int) < (a.size : Int) := by omega
    go_wp2_with fail
    go_ret
    exact ⟨rfl, i1.2⟩
  by_cases h2 : 1000 < b.size
  · have h2' : (1000 : Int) < (b.size : Int) := by omega
    have ka : ¬ (1000 : Int) < (a.size : Int) := by omega
    go_wp2_with fail
    go_ret
    exact ⟨rfl, i1.2⟩
  by_cases h3 : 1000 < s.size
  · have h3' : (1000 : Int) < (s.size : Int) := by omega
    have ka : ¬ (1000 : Int) < (a.size : Int) := by omega
    have kb : ¬ (1000 : Int) < (b.size : Int) := by omega
    go_wp2_with fail
    go_ret
    exact ⟨rfl, i1.2⟩
  have ka : ¬ (1000 : Int) < (a.size : Int) := by omega
  have kb : ¬ (1000 : Int) < (b.size : Int) := by omega
  have ks : ¬ (1000 : Int) < (s.size : Int) := by omega
  go_upto_region 5 with fail
  clear ka kb ks
  replace ha : a.size ≤ 1000 := by omega
  replace hbb : b.size ≤ 1000 := by omega
  replace hs : s.size ≤ 1000 := by omega
  clear h1 h2 h3
  by_cases hE : foE r (L a) (L b) = 0
  · obtain ⟨hk, hp1, hq1, hna, hnb, hnb2⟩ := foE_parts hE
    have ht := ftext_ok r a b V1 i1.1 ((Lib.tabBelow_of_tabIs hQ) _ i1.2) hB ha hbb hE
    have hTl := foT_len hE
    have hpv := fun W h h2 => par_any (B (foT r (L a) (L b))) W h h2 (by rw [B_len]; exact hTl)
    have hNO := nrm_ok hk; have hNB := nrm_bd hB
    have hte := fun Y => hNO.tr hk Y; have hsp := fun Y => hNO.spL hk Y
    rw [show L (B (foT r (L a) (L b))) = foT r (L a) (L b) from rfl, parV_back hB hE, B_L, B_L] at hpv
    generalize B (foT r (L a) (L b)) = T at *
    generalize nrm r = x at *
    obtain ⟨xb, xc, xd, xp, xq⟩ := x
    obtain ⟨e1, e2, e3, _, _, hxk⟩ := hNO
    dsimp only at e1 e2 e3
    subst e1 e2 e3
    clear hTl hp1 hq1 hna hnb hnb2 hE
    go_wp2_with (refine wpList_row_g rfl 26 _ rfl _ rfl _ _ _ _ r1 Tryd.underlying26 rfl (by kernel_rfl) ?_)
    refine ht.mono ?_; rintro e V2 ⟨rfl, hb⟩
    have r2 := r1.below hb r1.lt; have i2 := i1.call hb; clear hb ht r1 i1
    go_wp2_with fail
    refine (hpv _ i2.1 ((Lib.tabBelow_of_tabIs hQ) _ i2.2)).mono ?_; rintro e V3 ⟨rfl, hb⟩
    have r3 := r2.below hb r2.lt; have i3 := i2.call hb; clear hb hpv r2 i2
    go_upto_region 8 with (refine wpList_store_new rfl 26 _ _ rfl rfl V3.heap.size (rcA xb 0 xd r.p r.q) rfl rfl _ #[.int .i32 0, .int .i32 0, .int .i32 0, .int .u16 0, .int .u16 0, .int .u16 0, .int .u16 0, .int .u16 0, .int .u16 0, .int .u16 0, .int .u16 0, .int .u16 0, .int .u16 0, .int .u16 0, .int .u16 0, .int .u16 0, .int .u16 0, .int .u16 0, .int .u16 0] V3 rfl rfl rfl (by kernel_rfl) (by kernel_rfl) ?_)
    have x3 := Blk.new V3 26 (rcA xb 0 xd r.p r.q); have i4 := i3.alloc (.cells (rcA xb 0 xd r.p r.q) 26); replace r3 := r3.alloc (.cells (rcA xb 0 xd r.p r.q) 26)
    generalize V3.alloc (.cells (rcA xb 0 xd r.p r.q) 26) = V4 at *
    generalize V3.heap.size = gx at *
    have hn1 : ∀ w, (binOp .neq 24 (.agg (sA r.p)) (.agg (sA r.p))).run Tryd.prog w = .ok (.bool false) w := fun w => by rw [neq_stt, eqS_iff.2 rfl]; rfl
    have hn2 : ∀ w, (binOp .neq 24 (.agg (sA r.q)) (.agg (sA r.q))).run Tryd.prog w = .ok (.bool false) w := fun w => by rw [neq_stt, eqS_iff.2 rfl]; rfl
    have cx : V4.cell? ⟨gx, 1, none⟩ = some (.int .i32 0) := x3.cell 1
    try simp only [List.append] at *
    go_wp2_with (first | (refine wpList_seg_g rfl 24 _ rfl _ 3 (sA r.p) rfl _ _ _ _ x3 Tryd.underlying24 rfl (by kernel_rfl) (by kernel_rfl) ?_) | (refine wpList_seg_g rfl 24 _ rfl _ 3 (sA r.p) rfl _ _ _ _ r3 Tryd.underlying24 rfl (by kernel_rfl) (by kernel_rfl) ?_) | (refine wpList_seg_g rfl 24 _ rfl _ 11 (sA r.q) rfl _ _ _ _ x3 Tryd.underlying24 rfl (by kernel_rfl) (by kernel_rfl) ?_) | (refine wpList_seg_g rfl 24 _ rfl _ 11 (sA r.q) rfl _ _ _ _ r3 Tryd.underlying24 rfl (by kernel_rfl) (by kernel_rfl) ?_) | (refine wpList_row_g rfl 26 _ rfl _ rfl _ _ _ _ x3 Tryd.underlying26 rfl (by kernel_rfl) ?_))
    clear hn1 hn2 cx
    have hck := chk_any xb 0 xd r.p r.q V4 i4.1 hNB
    rw [show rcE xb 0 xd r.p r.q = 0 by unfold rcE; rw [if_pos hxk]] at hck
    refine hck.mono ?_; rintro e V5 ⟨rfl, hb⟩
    replace r3 := r3.below hb r3.lt; replace x3 := x3.below hb x3.lt; have i5 := i4.call hb; clear hb hck i4
    by_cases hy0 : trE r.b r.c r.d r.p r.q y = 0
    · have hy : 1601 ≤ y ∧ y ≤ 9999 := by
        unfold trE at hy0; rw [if_neg (by rw [show rcOk r.b r.c r.d r.p r.q = true from hk]; decide)] at hy0
        by_cases q : 1601 ≤ y ∧ y ≤ 9999
        · exact q
        · rw [if_pos q] at hy0; cases hy0
      have hs1 := fun W h => spans_yes r y W h hB hk hy.1 hy.2
      have hs2 := fun W h => spans_yes ⟨xb, 0, xd, r.p, r.q⟩ y W h hNB hxk hy.1 hy.2
      simp only [hsp] at hs2
      have hln := spL_len r y; replace hln := hln.2
      generalize Tb.spL r y = l at *
      go_wp2_with (refine wpList_row_g rfl 26 _ rfl _ rfl _ _ _ _ r3 Tryd.underlying26 rfl (by kernel_rfl) ?_)
      refine (hs1 _ i5.1).mono ?_; rintro e V6 ⟨g1, n1, c1, rfl, rfl, hc1, hR1, hg1, hb⟩
      replace r3 := r3.below hb r3.lt; replace x3 := x3.below hb x3.lt; have i6 := i5.call hb; clear hb hs1 i5
      have S1 : Ft.Spans V6 V6.heap.size (some ⟨g1, 0, none⟩) l.length l := ⟨rfl, hR1⟩
      clear hR1 hg1
      go_wp2_with (refine wpList_row_g rfl 26 _ rfl _ rfl _ _ _ _ x3 Tryd.underlying26 rfl (by kernel_rfl) ?_)
      refine (hs2 _ i6.1).mono ?_; rintro e V7 ⟨g2, n2, c2, rfl, rfl, hc2, hR2, hg2, hb⟩
      have i7 := i6.call hb
      have S2 : Ft.Spans V7 V7.heap.size (some ⟨g2, 0, none⟩) l.length l := ⟨rfl, hR2⟩
      replace S1 := (S1.below hb).more hb.size
      clear hR2 hg2 hs2 i6 hb r3 x3
      clear hsp hte hy0 hy hc1 hc2 hNB hxk hk hB
      have hsm := Ft.same_eq (some ⟨g1, 0, none⟩) (some ⟨g2, 0, none⟩) l.length c1 c2 l V7 S1 S2 (by unfold maxLen; omega)
      clear S1 S2 hln
      generalize l.length = nl at *
      go_wp2_with fail
      refine hsm.mono ?_; rintro e V8 ⟨rfl, hb⟩
      have i8 := i7.call hb; clear hb hsm i7
      go_upto_region 14 with fail
      have hpv := par_any s V8 i8.1 ((Lib.tabBelow_of_tabIs hQ) _ i8.2) hs
      obtain ⟨l1, l2, hBp⟩ := par_names (L s)
      rw [L_len] at l1 l2
      by_cases hok : (parW (L s)).ok (L s)
      · rw [parV_yes rfl hok] at hpv
        have hE9 := hok.2.2.2.1; have hTe : B (foT (parW (L s)).r (parW (L s)).n (parW (L s)).d) = s := by rw [hok.2.2.2.2, B_L]
        have hNm := (foE_parts hE9).2.2.2.1
        generalize parW (L s) = p at *
        clear hok
        go_wp2_with fail
        refine hpv.mono ?_; rintro e W11 ⟨rfl, hb⟩
        have I11 := i8.call hb; clear hb hpv i8 
        go_upto_region 15 with (refine wpList_store_new rfl 26 _ _ rfl rfl W11.heap.size p.r.A rfl rfl _ #[.int .i32 0, .int .i32 0, .int .i32 0, .int .u16 0, .int .u16 0, .int .u16 0, .int .u16 0, .int .u16 0, .int .u16 0, .int .u16 0, .int .u16 0, .int .u16 0, .int .u16 0, .int .u16 0, .int .u16 0, .int .u16 0, .int .u16 0, .int .u16 0, .int .u16 0] W11 rfl rfl rfl (by kernel_rfl) (by kernel_rfl) ?_)
        have x2 := Blk.new W11 26 p.r.A; have I12 := I11.alloc (.cells p.r.A 26)
        generalize W11.alloc (.cells p.r.A 26) = W12 at *
        go_wp2_with (refine wpList_row_g rfl 26 _ rfl _ rfl _ _ _ _ x2 Tryd.underlying26 rfl (by kernel_rfl) ?_)
        have ht := ftext_ok p.r (B p.n) (B p.d) W12 I12.1 ((Lib.tabBelow_of_tabIs hQ) _ I12.2) hBp (by rw [B_len]; omega) (by rw [B_len]; omega) (by exact hE9)
        rw [show L (B p.n) = p.n from rfl, show L (B p.d) = p.d from rfl, hTe] at ht
        refine ht.mono ?_; rintro e W13 ⟨rfl, hb⟩
        have I13 := I12.call hb; clear hb ht I12 x2
        go_wp2_with fail
        refine (nam_at (s := B p.n) (b := true) W13 (by rw [B_len]; unfold maxLen; omega) (by exact hNm)).mono ?_; rintro e W14 ⟨rfl, hb⟩
        have I14 := I13.call hb
        go_wp2_with fail
        go_ret
        exact ⟨rfl, I14.2⟩
      · rw [parV_no rfl hok] at hpv
        clear hok l1 l2 hBp
        go_wp2_with fail
        refine hpv.mono ?_; rintro e W11 ⟨rfl, hb⟩
        have I11 := i8.call hb; clear hb hpv i8 
        go_upto_region 15 with (refine wpList_store_new rfl 26 _ _ rfl rfl W11.heap.size #[.int .i32 0, .int .i32 0, .int .i32 0, .int .u16 0, .int .u16 0, .int .u16 0, .int .u16 0, .int .u16 0, .int .u16 0, .int .u16 0, .int .u16 0, .int .u16 0, .int .u16 0, .int .u16 0, .int .u16 0, .int .u16 0, .int .u16 0, .int .u16 0, .int .u16 0] rfl rfl _ #[.int .i32 0, .int .i32 0, .int .i32 0, .int .u16 0, .int .u16 0, .int .u16 0, .int .u16 0, .int .u16 0, .int .u16 0, .int .u16 0, .int .u16 0, .int .u16 0, .int .u16 0, .int .u16 0, .int .u16 0, .int .u16 0, .int .u16 0, .int .u16 0, .int .u16 0] W11 rfl rfl rfl (by kernel_rfl) (by kernel_rfl) ?_)
        have x2 := Blk.new W11 26 #[.int .i32 0, .int .i32 0, .int .i32 0, .int .u16 0, .int .u16 0, .int .u16 0, .int .u16 0, .int .u16 0, .int .u16 0, .int .u16 0, .int .u16 0, .int .u16 0, .int .u16 0, .int .u16 0, .int .u16 0, .int .u16 0, .int .u16 0, .int .u16 0, .int .u16 0]; have I12 := I11.alloc (.cells #[.int .i32 0, .int .i32 0, .int .i32 0, .int .u16 0, .int .u16 0, .int .u16 0, .int .u16 0, .int .u16 0, .int .u16 0, .int .u16 0, .int .u16 0, .int .u16 0, .int .u16 0, .int .u16 0, .int .u16 0, .int .u16 0, .int .u16 0, .int .u16 0, .int .u16 0] 26)
        generalize W11.alloc (.cells #[.int .i32 0, .int .i32 0, .int .i32 0, .int .u16 0, .int .u16 0, .int .u16 0, .int .u16 0, .int .u16 0, .int .u16 0, .int .u16 0, .int .u16 0, .int .u16 0, .int .u16 0, .int .u16 0, .int .u16 0, .int .u16 0, .int .u16 0, .int .u16 0, .int .u16 0] 26) = W12 at *
        go_wp2_with (refine wpList_row_g rfl 26 _ rfl _ rfl _ _ _ _ x2 Tryd.underlying26 rfl (by kernel_rfl) ?_)
        go_ret
        exact ⟨rfl, I12.2⟩
    · have hs1 := fun W h => spans_no r y (trE r.b r.c r.d r.p r.q y) W h hB rfl hy0
      have hs2 := fun W h => spans_no ⟨xb, 0, xd, r.p, r.q⟩ y (trE r.b r.c r.d r.p r.q y) W h hNB (hte y) hy0
      generalize trE r.b r.c r.d r.p r.q y = E at *
      go_wp2_with (refine wpList_row_g rfl 26 _ rfl _ rfl _ _ _ _ r3 Tryd.underlying26 rfl (by kernel_rfl) ?_)
      refine (hs1 _ i5.1).mono ?_; rintro e V6 ⟨rfl, hb⟩
      replace r3 := r3.below hb r3.lt; replace x3 := x3.below hb x3.lt; have i6 := i5.call hb; clear hb hs1 i5
      go_wp2_with (refine wpList_row_g rfl 26 _ rfl _ rfl _ _ _ _ x3 Tryd.underlying26 rfl (by kernel_rfl) ?_)
      refine (hs2 _ i6.1).mono ?_; rintro e V7 ⟨rfl, hb⟩
      have i7 := i6.call hb; clear hb hs2 i6 r3 x3
      have hsm := Ft.same_eq none none 0 0 0 [] V7 ⟨rfl, Reads.none_⟩ ⟨rfl, Reads.none_⟩ (by unfold maxLen; omega)
      clear hsp hte hy0
      go_wp2_with fail
      refine hsm.mono ?_; rintro e V8 ⟨rfl, hb⟩
      have i8 := i7.call hb; clear hb hsm i7
      go_upto_region 14 with fail
      have hpv := par_any s V8 i8.1 ((Lib.tabBelow_of_tabIs hQ) _ i8.2) hs
      obtain ⟨l1, l2, hBp⟩ := par_names (L s)
      rw [L_len] at l1 l2
      by_cases hok : (parW (L s)).ok (L s)
      · rw [parV_yes rfl hok] at hpv
        have hE9 := hok.2.2.2.1; have hTe : B (foT (parW (L s)).r (parW (L s)).n (parW (L s)).d) = s := by rw [hok.2.2.2.2, B_L]
        have hNm := (foE_parts hE9).2.2.2.1
        generalize parW (L s) = p at *
        clear hok
        go_wp2_with fail
        refine hpv.mono ?_; rintro e W11 ⟨rfl, hb⟩
        have I11 := i8.call hb; clear hb hpv i8 
        go_upto_region 15 with (refine wpList_store_new rfl 26 _ _ rfl rfl W11.heap.size p.r.A rfl rfl _ #[.int .i32 0, .int .i32 0, .int .i32 0, .int .u16 0, .int .u16 0, .int .u16 0, .int .u16 0, .int .u16 0, .int .u16 0, .int .u16 0, .int .u16 0, .int .u16 0, .int .u16 0, .int .u16 0, .int .u16 0, .int .u16 0, .int .u16 0, .int .u16 0, .int .u16 0] W11 rfl rfl rfl (by kernel_rfl) (by kernel_rfl) ?_)
        have x2 := Blk.new W11 26 p.r.A; have I12 := I11.alloc (.cells p.r.A 26)
        generalize W11.alloc (.cells p.r.A 26) = W12 at *
        go_wp2_with (refine wpList_row_g rfl 26 _ rfl _ rfl _ _ _ _ x2 Tryd.underlying26 rfl (by kernel_rfl) ?_)
        have ht := ftext_ok p.r (B p.n) (B p.d) W12 I12.1 ((Lib.tabBelow_of_tabIs hQ) _ I12.2) hBp (by rw [B_len]; omega) (by rw [B_len]; omega) (by exact hE9)
        rw [show L (B p.n) = p.n from rfl, show L (B p.d) = p.d from rfl, hTe] at ht
        refine ht.mono ?_; rintro e W13 ⟨rfl, hb⟩
        have I13 := I12.call hb; clear hb ht I12 x2
        go_wp2_with fail
        refine (nam_at (s := B p.n) (b := true) W13 (by rw [B_len]; unfold maxLen; omega) (by exact hNm)).mono ?_; rintro e W14 ⟨rfl, hb⟩
        have I14 := I13.call hb
        go_wp2_with fail
        go_ret
        exact ⟨rfl, I14.2⟩
      · rw [parV_no rfl hok] at hpv
        clear hok l1 l2 hBp
        go_wp2_with fail
        refine hpv.mono ?_; rintro e W11 ⟨rfl, hb⟩
        have I11 := i8.call hb; clear hb hpv i8 
        go_upto_region 15 with (refine wpList_store_new rfl 26 _ _ rfl rfl W11.heap.size #[.int .i32 0, .int .i32 0, .int .i32 0, .int .u16 0, .int .u16 0, .int .u16 0, .int .u16 0, .int .u16 0, .int .u16 0, .int .u16 0, .int .u16 0, .int .u16 0, .int .u16 0, .int .u16 0, .int .u16 0, .int .u16 0, .int .u16 0, .int .u16 0, .int .u16 0] rfl rfl _ #[.int .i32 0, .int .i32 0, .int .i32 0, .int .u16 0, .int .u16 0, .int .u16 0, .int .u16 0, .int .u16 0, .int .u16 0, .int .u16 0, .int .u16 0, .int .u16 0, .int .u16 0, .int .u16 0, .int .u16 0, .int .u16 0, .int .u16 0, .int .u16 0, .int .u16 0] W11 rfl rfl rfl (by kernel_rfl) (by kernel_rfl) ?_)
        have x2 := Blk.new W11 26 #[.int .i32 0, .int .i32 0, .int .i32 0, .int .u16 0, .int .u16 0, .int .u16 0, .int .u16 0, .int .u16 0, .int .u16 0, .int .u16 0, .int .u16 0, .int .u16 0, .int .u16 0, .int .u16 0, .int .u16 0, .int .u16 0, .int .u16 0, .int .u16 0, .int .u16 0]; have I12 := I11.alloc (.cells #[.int .i32 0, .int .i32 0, .int .i32 0, .int .u16 0, .int .u16 0, .int .u16 0, .int .u16 0, .int .u16 0, .int .u16 0, .int .u16 0, .int .u16 0, .int .u16 0, .int .u16 0, .int .u16 0, .int .u16 0, .int .u16 0, .int .u16 0, .int .u16 0, .int .u16 0] 26)
        generalize W11.alloc (.cells #[.int .i32 0, .int .i32 0, .int .i32 0, .int .u16 0, .int .u16 0, .int .u16 0, .int .u16 0, .int .u16 0, .int .u16 0, .int .u16 0, .int .u16 0, .int .u16 0, .int .u16 0, .int .u16 0, .int .u16 0, .int .u16 0, .int .u16 0, .int .u16 0, .int .u16 0] 26) = W12 at *
        go_wp2_with (refine wpList_row_g rfl 26 _ rfl _ rfl _ _ _ _ x2 Tryd.underlying26 rfl (by kernel_rfl) ?_)
        go_ret
        exact ⟨rfl, I12.2⟩
  · have ht := ftext_no r a b V1 i1.1 hB ha hbb hE
    have hEb : (foE r (L a) (L b) == 0) = false := by rw [beq_eq_false_iff_ne]; exact hE
    generalize foE r (L a) (L b) = E at *
    go_wp2_with (refine wpList_row_g rfl 26 _ rfl _ rfl _ _ _ _ r1 Tryd.underlying26 rfl (by kernel_rfl) ?_)
    refine ht.mono ?_; rintro e V8 ⟨rfl, hb⟩
    have i8 := i1.call hb; clear hb ht r1 i1
    go_upto_region 14 with fail
    have hpv := par_any s V8 i8.1 ((Lib.tabBelow_of_tabIs hQ) _ i8.2) hs
    obtain ⟨l1, l2, hBp⟩ := par_names (L s)
    rw [L_len] at l1 l2
    by_cases hok : (parW (L s)).ok (L s)
    · rw [parV_yes rfl hok] at hpv
      have hE9 := hok.2.2.2.1; have hTe : B (foT (parW (L s)).r (parW (L s)).n (parW (L s)).d) = s := by rw [hok.2.2.2.2, B_L]
      have hNm := (foE_parts hE9).2.2.2.1
      generalize parW (L s) = p at *
      clear hok
      go_wp2_with fail
      refine hpv.mono ?_; rintro e W11 ⟨rfl, hb⟩
      have I11 := i8.call hb; clear hb hpv i8 hE hEb
      go_upto_region 15 with (refine wpList_store_new rfl 26 _ _ rfl rfl W11.heap.size p.r.A rfl rfl _ #[.int .i32 0, .int .i32 0, .int .i32 0, .int .u16 0, .int .u16 0, .int .u16 0, .int .u16 0, .int .u16 0, .int .u16 0, .int .u16 0, .int .u16 0, .int .u16 0, .int .u16 0, .int .u16 0, .int .u16 0, .int .u16 0, .int .u16 0, .int .u16 0, .int .u16 0] W11 rfl rfl rfl (by kernel_rfl) (by kernel_rfl) ?_)
      have x2 := Blk.new W11 26 p.r.A; have I12 := I11.alloc (.cells p.r.A 26)
      generalize W11.alloc (.cells p.r.A 26) = W12 at *
      go_wp2_with (refine wpList_row_g rfl 26 _ rfl _ rfl _ _ _ _ x2 Tryd.underlying26 rfl (by kernel_rfl) ?_)
      have ht := ftext_ok p.r (B p.n) (B p.d) W12 I12.1 ((Lib.tabBelow_of_tabIs hQ) _ I12.2) hBp (by rw [B_len]; omega) (by rw [B_len]; omega) (by exact hE9)
      rw [show L (B p.n) = p.n from rfl, show L (B p.d) = p.d from rfl, hTe] at ht
      refine ht.mono ?_; rintro e W13 ⟨rfl, hb⟩
      have I13 := I12.call hb; clear hb ht I12 x2
      go_wp2_with fail
      refine (nam_at (s := B p.n) (b := true) W13 (by rw [B_len]; unfold maxLen; omega) (by exact hNm)).mono ?_; rintro e W14 ⟨rfl, hb⟩
      have I14 := I13.call hb
      go_wp2_with fail
      go_ret
      exact ⟨rfl, I14.2⟩
    · rw [parV_no rfl hok] at hpv
      clear hok l1 l2 hBp
      go_wp2_with fail
      refine hpv.mono ?_; rintro e W11 ⟨rfl, hb⟩
      have I11 := i8.call hb; clear hb hpv i8 hE hEb
      go_upto_region 15 with (refine wpList_store_new rfl 26 _ _ rfl rfl W11.heap.size #[.int .i32 0, .int .i32 0, .int .i32 0, .int .u16 0, .int .u16 0, .int .u16 0, .int .u16 0, .int .u16 0, .int .u16 0, .int .u16 0, .int .u16 0, .int .u16 0, .int .u16 0, .int .u16 0, .int .u16 0, .int .u16 0, .int .u16 0, .int .u16 0, .int .u16 0] rfl rfl _ #[.int .i32 0, .int .i32 0, .int .i32 0, .int .u16 0, .int .u16 0, .int .u16 0, .int .u16 0, .int .u16 0, .int .u16 0, .int .u16 0, .int .u16 0, .int .u16 0, .int .u16 0, .int .u16 0, .int .u16 0, .int .u16 0, .int .u16 0, .int .u16 0, .int .u16 0] W11 rfl rfl rfl (by kernel_rfl) (by kernel_rfl) ?_)
      have x2 := Blk.new W11 26 #[.int .i32 0, .int .i32 0, .int .i32 0, .int .u16 0, .int .u16 0, .int .u16 0, .int .u16 0, .int .u16 0, .int .u16 0, .int .u16 0, .int .u16 0, .int .u16 0, .int .u16 0, .int .u16 0, .int .u16 0, .int .u16 0, .int .u16 0, .int .u16 0, .int .u16 0]; have I12 := I11.alloc (.cells #[.int .i32 0, .int .i32 0, .int .i32 0, .int .u16 0, .int .u16 0, .int .u16 0, .int .u16 0, .int .u16 0, .int .u16 0, .int .u16 0, .int .u16 0, .int .u16 0, .int .u16 0, .int .u16 0, .int .u16 0, .int .u16 0, .int .u16 0, .int .u16 0, .int .u16 0] 26)
      generalize W11.alloc (.cells #[.int .i32 0, .int .i32 0, .int .i32 0, .int .u16 0, .int .u16 0, .int .u16 0, .int .u16 0, .int .u16 0, .int .u16 0, .int .u16 0, .int .u16 0, .int .u16 0, .int .u16 0, .int .u16 0, .int .u16 0, .int .u16 0, .int .u16 0, .int .u16 0, .int .u16 0] 26) = W12 at *
      go_wp2_with (refine wpList_row_g rfl 26 _ rfl _ rfl _ _ _ _ x2 Tryd.underlying26 rfl (by kernel_rfl) ?_)
      go_ret
      exact ⟨rfl, I12.2⟩
end Go.Proofs.YtgdgkgeoigljcaaDoor.Fo
