/-
  THE REFERENCE, walked: tables checked, picked from, asked.
-/
import Derived.Test.YtefcjccapekjdaaDoorRfT
import Derived.Test.YtefcjccapekjdaaDoorTbP
namespace Go.Proofs.YtefcjccapekjdaaDoor.Rf
open Go.ChangeShapes Go.WideShapes Go.ChangeAt Go.RowKit
open Go.Proofs.YtefcjccapekjdaaDoor
open Go.Proofs.YtefcjccapekjdaaDoor.Wd
open Go.Proofs.YtefcjccapekjdaaDoor.Rec
open Go.Proofs.YtefcjccapekjdaaDoor.Yr (leS lcS secV lc_bd ceil_hi ceil_lo twoV sumB offS_bd stO stA0 stateV trE trA trB atO atB results_se)
open Go.Proofs.YtefcjccapekjdaaDoor.Civ (Tab Inv ret_int dateE dateV ret_two)
open Go.Proofs.YtefcjccapekjdaaDoor.Tb
open Go.Proofs.YtefcjccapekjdaaDoor.Clk (yrV yrE)
set_option linter.unusedVariables false
theorem rrc {r : Rc} {w : World} (hT : Tab w) (B : r.Bd) {k : Bool} (h : r.ok = k) : Calls Tryd.prog 25 #[r.V] w fun e w' => e = .returned (.int .i64 (if k = true then 0 else 2)) ∧ Below w.heap.size w w' := by
  subst h; exact rrc_any r.b r.c r.d r.p r.q w hT B
theorem rat_at {r : Rc} {Y t : Int} {w : World} (hT : Tab w) (B : r.Bd) (hk : r.ok = true) (h1 : 1601 ≤ Y) (h2 : Y ≤ 9999) :
    Calls Tryd.prog 100 #[r.V, .int .i64 Y, .int .i64 t] w fun e w' => e = .returned (.tuple #[stateV (r.off Y t) (r.sum Y t), .int .i64 0]) ∧ Below w.heap.size w w' := by
  have := rAt_any r.b r.c r.d r.p r.q Y t w hT B
  rwa [Rc.tr0 hk h1 h2, Rc.atO_eq hk h1 h2, Rc.atB_eq hk h1 h2] at this
set_option maxRecDepth 100000 in
set_option maxHeartbeats 8000000 in
theorem rtcheck_any (F L : Int) (A : Option Addr) (n c B : Nat) (l : List Rc) (w : World) (hT : Tab w) (hR : Recs w B A n l) (hB : B ≤ w.heap.size) (hm : n ≤ maxLen) :
    Calls Tryd.prog 46 #[tbV F L A n c] w fun e w' => e = .returned (.int .i64 (tbE F L l)) ∧ Below w.heap.size w w' := by
  have i0 := Civ.Inv.start hT
  have i1 := i0.alloc (.cells (tbA F L A n c) 40)
  have hll : l.length = n := hR.1
  by_cases hbd : bdT F L = true
  · have hbd' := hbd
    unfold bdT at hbd'
    simp at hbd'
    obtain ⟨b1, b2, b3, b4, b5⟩ := hbd'
    have b6 : ¬ 400 ≤ L - F := by omega
    by_cases hlen : (n : Int) = L - F + 1
    · have HE := Lib.hid (show tbOk F L l = okL l by unfold tbOk; rw [hbd, hll, decide_eq_true hlen]; simp)
      clear hbd
      have hn : n ≤ 1000 := by omega
      go_enter Tryd.func46, Tryd.ntmps46
      go_wp2_with fail
      go_loopw [48] (fun i w' => ∃ k : Nat, i = .int .i64 k ∧ k ≤ n ∧ okL (l.take k) = true ∧ Inv w w') (fun i _ => n - (intOf i).toNat)
      case atStart => exact ⟨0, rfl, Nat.zero_le _, by simp [okL], i1⟩
      case round =>
        obtain ⟨k, rfl, hk, hall, iv⟩ := hrel
        by_cases hlt : k < n
        · have hlt' : (k : Int) < (n : Int) := by omega
          have hkl : k < l.length := by omega
          obtain ⟨ad, rfl, hrow⟩ := (hR.below (iv.2.mono hB)).row hlt hkl
          have hbd := hR.bd hkl
          have hT := Lib.hid (okL_take hkl)
          have hNo := Lib.hid (okL_no hkl)
          have HA := Lib.hid hall; clear hall
          generalize l[k] = r at *
          have x0 := Blk.new wr 26 r.A
          have iv0 := iv.alloc (.cells r.A 26)
          cases hr : r.ok
          · have HF := Lib.hid (hNo.out hr)
            have hc := fun w hT => rrc (w := w) hT hbd hr
            simp only [Bool.false_eq_true, if_false] at hc
            clear hr
            go_wp2_with (first
              | refine wpList_at_g rfl 26 _ rfl B _ r.A rfl _ hrow Tryd.underlying26 rfl (by kernel_rfl) ?_
              | refine wpList_store_new rfl 26 _ _ rfl rfl wr.heap.size r.A rfl rfl _ z19 wr rfl rfl rfl (by kernel_rfl) (by kernel_rfl) ?_
              | refine wpList_row_g rfl 26 _ rfl _ rfl _ _ _ _ x0 Tryd.underlying26 rfl (by kernel_rfl) ?_)
            refine (hc _ iv0.1).mono ?_; rintro e w1 ⟨rfl, hb1⟩
            have iv1 := iv0.call hb1
            go_wp2_with fail
            go_ret
            exact ⟨by unfold tbE; rw [HE.out, HF.out]; rfl, iv1.2⟩
          · have HF := Lib.hid hr
            have hc := fun w hT => rrc (w := w) hT hbd hr
            simp only [if_true] at hc
            clear hr
            go_wp2_with (first
              | refine wpList_at_g rfl 26 _ rfl B _ r.A rfl _ hrow Tryd.underlying26 rfl (by kernel_rfl) ?_
              | refine wpList_store_new rfl 26 _ _ rfl rfl wr.heap.size r.A rfl rfl _ z19 wr rfl rfl rfl (by kernel_rfl) (by kernel_rfl) ?_
              | refine wpList_row_g rfl 26 _ rfl _ rfl _ _ _ _ x0 Tryd.underlying26 rfl (by kernel_rfl) ?_)
            refine (hc _ iv0.1).mono ?_; rintro e w1 ⟨rfl, hb1⟩
            have iv1 := iv0.call hb1
            go_wp2_with fail
            go_roundw
            case rel => exact ⟨k + 1, by go_num, by omega, by rw [hT.out, HA.out, HF.out]; rfl, iv1⟩
            case measure => simp [intOf]; omega
        · obtain rfl : k = n := by omega
          have hlt' : ¬ (k : Int) < (k : Int) := by omega
          rw [List.take_of_length_le (by omega)] at hall
          have HA := Lib.hid hall; clear hall
          go_wp2
          go_ret
          exact ⟨by unfold tbE; rw [HE.out, HA.out]; rfl, iv.2⟩
    · have HE := Lib.hid (show tbE F L l = 2 by unfold tbE tbOk; rw [hll, decide_eq_false hlen]; simp)
      have hl1 : ((n : Int) != L - F + 1) = true := by simpa using hlen
      have hl2 : ((n : Int) == L - F + 1) = false := by simpa using hlen
      clear hbd
      go_enter Tryd.func46, Tryd.ntmps46
      go_wp2_with fail
      go_ret
      exact ⟨by rw [HE.out]; rfl, i1.2⟩
  · have HE := Lib.hid (show tbE F L l = 2 by unfold tbE tbOk; rw [Bool.eq_false_iff.2 hbd]; simp)
    have hs : F < 1601 ∨ (1601 ≤ F ∧ 9999 < F) ∨ (1601 ≤ F ∧ F ≤ 9999 ∧ L < F) ∨ (1601 ≤ F ∧ F ≤ 9999 ∧ F ≤ L ∧ 9999 < L) ∨ (1601 ≤ F ∧ F ≤ 9999 ∧ F ≤ L ∧ L ≤ 9999 ∧ 400 ≤ L - F) := by
      unfold bdT at hbd; simp at hbd; omega
    clear hbd
    rcases hs with h1 | ⟨h1, h2⟩ | ⟨h1, h2, h3⟩ | ⟨h1, h2, h3, h4⟩ | ⟨h1, h2, h3, h4, h5⟩
    all_goals
      go_enter Tryd.func46, Tryd.ntmps46
      go_wp2_with fail
      go_ret
      exact ⟨by rw [HE.out]; rfl, i1.2⟩
set_option maxRecDepth 100000 in
set_option maxHeartbeats 8000000 in
theorem rpick_any (F L : Int) (A : Option Addr) (n c B : Nat) (l : List Rc) (y : Int) (w : World) (hT : Tab w) (hR : Recs w B A n l) (hB : B ≤ w.heap.size) (hm : n ≤ maxLen) :
    Calls Tryd.prog 40 #[tbV F L A n c, .int .i64 y] w fun e w' => e = .returned (.tuple #[(pkR F L l y).V, .int .i64 (pkE F L l y)]) ∧ Below w.heap.size w w' := by
  have i0 := Civ.Inv.start hT
  have hch := fun w' (h : Civ.Inv w w') => rtcheck_any F L A n c B l w' h.1 (hR.below (h.2.mono hB)) (Nat.le_trans hB h.2.size) hm
  cases hk : tbOk F L l
  · have e1 : pkE F L l y = 2 := by unfold pkE; rw [if_pos hk]
    have e2 : pkR F L l y = Rc.nil := by unfold pkR; rw [e1]; rfl
    simp only [show tbE F L l = 2 by unfold tbE; rw [hk]; rfl] at hch
    rw [e1, e2]; clear e1 e2 hk
    go_enter Tryd.func40, Tryd.ntmps40
    go_wp2_with (first | refine wpList_row_g rfl 40 _ rfl _ rfl _ _ _ _ ((Wd.Blk.new w 40 (tbA F L A n c)).alloc (.cells z19 26)) Tryd.underlying40 rfl (by kernel_rfl) ?_)
    have x_1 := ((Wd.Blk.new w 40 (tbA F L A n c)).alloc (.cells z19 26))
    have z_1 := (blk_at (w.alloc (.cells (tbA F L A n c) 40)) 26 z19 (sz1 _ _ rfl))
    have inv_1 := ((i0.alloc (.cells (tbA F L A n c) 40)).alloc (.cells z19 26))
    refine (hch _ inv_1).mono ?_; rintro e w_1 ⟨rfl, hb_1⟩
    have xc_1 := x_1.below hb_1 x_1.lt
    have zc_1 := z_1.below hb_1 z_1.lt
    have invc_1 := inv_1.call hb_1
    clear x_1 z_1 inv_1 hb_1
    go_wp2_with (first | refine wpList_store_g rfl 26 _ _ rfl rfl _ 0 z19 z19 rfl rfl _ _ zc_1 (by show 0 + 19 ≤ 19; decide) (by kernel_rfl) (by kernel_rfl) (by kernel_rfl) ?_)
    exact bodyPost_ret (results_re rfl _ _ _ _ _ _ rfl rfl (Blk.row zc_1 _) rfl) rfl ⟨rfl, below_row invc_1.2 (Nat.le_add_right _ 1) _⟩
  · simp only [show tbE F L l = 0 by unfold tbE; rw [if_pos hk]] at hch
    by_cases hy : 1601 ≤ y ∧ y ≤ 9999
    · have e1 : pkE F L l y = 0 := by unfold pkE; rw [if_neg (by rw [hk]; decide), if_pos hy]
      have e2 : pkR F L l y = pick F L l y := by unfold pkR; rw [if_pos e1]
      rw [e1, e2]; clear e1 e2
      obtain ⟨h1, h2⟩ := hy
      obtain ⟨x0, x1, x2⟩ := idx_bd hk y
      have hn : (idx F L y).toNat < n := by rw [← hR.1]; exact x1
      have hrw := fun w' (h : Civ.Inv w w') => (hR.below (h.2.mono hB)).row hn x1
      rw [← pick_eq hk y] at hrw
      obtain ⟨⟨b1, b2, b3, b4, b5⟩, b6, _⟩ := tb_ok hk
      rw [hR.1] at b6
      clear hk hR x1 x2
      generalize pick F L l y = r at *
      have hs : y < F ∨ (F ≤ y ∧ y ≤ L) ∨ (F ≤ y ∧ L < y) := by omega
      rcases hs with s1 | ⟨s1, s2⟩ | ⟨s1, s2⟩
      · have e : idx F L y = 0 := by unfold idx; omega
        rw [e] at hrw hn; clear e x0
        go_enter Tryd.func40, Tryd.ntmps40
        go_wp2_with (first | refine wpList_row_g rfl 40 _ rfl _ rfl _ _ _ _ ((Wd.Blk.new w 40 (tbA F L A n c)).alloc (.cells z19 26)) Tryd.underlying40 rfl (by kernel_rfl) ?_)
        have x_1 := ((Wd.Blk.new w 40 (tbA F L A n c)).alloc (.cells z19 26))
        have z_1 := (blk_at (w.alloc (.cells (tbA F L A n c) 40)) 26 z19 (sz1 _ _ rfl))
        have inv_1 := ((i0.alloc (.cells (tbA F L A n c) 40)).alloc (.cells z19 26))
        refine (hch _ inv_1).mono ?_; rintro e w_1 ⟨rfl, hb_1⟩
        have xc_1 := x_1.below hb_1 x_1.lt
        have zc_1 := z_1.below hb_1 z_1.lt
        have invc_1 := inv_1.call hb_1
        clear x_1 z_1 inv_1 hb_1
        obtain ⟨ad, rfl, hrow⟩ := hrw _ invc_1
        have d0 := xc_1.cell 0; have d1 := xc_1.cell 1; have d2 := xc_1.cell 2; simp at d0 d1 d2
        go_wp2_with (first | refine wpList_at_g rfl 26 _ rfl B _ r.A rfl _ hrow Tryd.underlying26 rfl (by kernel_rfl) ?_ | refine wpList_store_g rfl 26 _ _ rfl rfl _ 0 r.A r.A rfl rfl _ _ zc_1 (by show 0 + 19 ≤ 19; decide) (by kernel_rfl) (by kernel_rfl) (by kernel_rfl) ?_)
        exact bodyPost_ret (results_re rfl _ _ _ _ _ _ rfl rfl (Blk.row zc_1 _) rfl) rfl ⟨rfl, below_row invc_1.2 (Nat.le_add_right _ 1) _⟩
      · have e : idx F L y = y - F := by unfold idx; omega
        rw [e] at hrw hn; clear e x0
        have hn2 : y - F < (n : Int) := by omega
        go_enter Tryd.func40, Tryd.ntmps40
        go_wp2_with (first | refine wpList_row_g rfl 40 _ rfl _ rfl _ _ _ _ ((Wd.Blk.new w 40 (tbA F L A n c)).alloc (.cells z19 26)) Tryd.underlying40 rfl (by kernel_rfl) ?_)
        have x_1 := ((Wd.Blk.new w 40 (tbA F L A n c)).alloc (.cells z19 26))
        have z_1 := (blk_at (w.alloc (.cells (tbA F L A n c) 40)) 26 z19 (sz1 _ _ rfl))
        have inv_1 := ((i0.alloc (.cells (tbA F L A n c) 40)).alloc (.cells z19 26))
        refine (hch _ inv_1).mono ?_; rintro e w_1 ⟨rfl, hb_1⟩
        have xc_1 := x_1.below hb_1 x_1.lt
        have zc_1 := z_1.below hb_1 z_1.lt
        have invc_1 := inv_1.call hb_1
        clear x_1 z_1 inv_1 hb_1
        obtain ⟨ad, rfl, hrow⟩ := hrw _ invc_1
        have d0 := xc_1.cell 0; have d1 := xc_1.cell 1; have d2 := xc_1.cell 2; simp at d0 d1 d2
        go_wp2_with (first | refine wpList_at_g rfl 26 _ rfl B _ r.A rfl _ hrow Tryd.underlying26 rfl (by kernel_rfl) ?_ | refine wpList_store_g rfl 26 _ _ rfl rfl _ 0 r.A r.A rfl rfl _ _ zc_1 (by show 0 + 19 ≤ 19; decide) (by kernel_rfl) (by kernel_rfl) (by kernel_rfl) ?_)
        exact bodyPost_ret (results_re rfl _ _ _ _ _ _ rfl rfl (Blk.row zc_1 _) rfl) rfl ⟨rfl, below_row invc_1.2 (Nat.le_add_right _ 1) _⟩
      · have e : idx F L y = L - F := by unfold idx; omega
        rw [e] at hrw hn; clear e x0
        have hn2 : L - F < (n : Int) := by omega
        have hn4 : (L - F).toNat = n - 1 := by omega
        have hn5 : 0 < n := by omega
        have hn6 : (n : Int) ≤ 1000 := by omega
        have hn7 : (1 : Int) ≤ (n : Int) := by omega
        rw [hn4] at hrw hn
        clear b6 hn4 hn2
        go_enter Tryd.func40, Tryd.ntmps40
        go_wp2_with (first | refine wpList_row_g rfl 40 _ rfl _ rfl _ _ _ _ ((Wd.Blk.new w 40 (tbA F L A n c)).alloc (.cells z19 26)) Tryd.underlying40 rfl (by kernel_rfl) ?_)
        have x_1 := ((Wd.Blk.new w 40 (tbA F L A n c)).alloc (.cells z19 26))
        have z_1 := (blk_at (w.alloc (.cells (tbA F L A n c) 40)) 26 z19 (sz1 _ _ rfl))
        have inv_1 := ((i0.alloc (.cells (tbA F L A n c) 40)).alloc (.cells z19 26))
        refine (hch _ inv_1).mono ?_; rintro e w_1 ⟨rfl, hb_1⟩
        have xc_1 := x_1.below hb_1 x_1.lt
        have zc_1 := z_1.below hb_1 z_1.lt
        have invc_1 := inv_1.call hb_1
        clear x_1 z_1 inv_1 hb_1
        obtain ⟨ad, rfl, hrow⟩ := hrw _ invc_1
        have d0 := xc_1.cell 0; have d1 := xc_1.cell 1; have d2 := xc_1.cell 2; simp at d0 d1 d2
        go_wp2_with (first | refine wpList_at_g rfl 26 _ rfl B _ r.A rfl _ hrow Tryd.underlying26 rfl (by kernel_rfl) ?_ | refine wpList_store_g rfl 26 _ _ rfl rfl _ 0 r.A r.A rfl rfl _ _ zc_1 (by show 0 + 19 ≤ 19; decide) (by kernel_rfl) (by kernel_rfl) (by kernel_rfl) ?_)
        exact bodyPost_ret (results_re rfl _ _ _ _ _ _ rfl rfl (Blk.row zc_1 _) rfl) rfl ⟨rfl, below_row invc_1.2 (Nat.le_add_right _ 1) _⟩
    · have e1 : pkE F L l y = 1 := by unfold pkE; rw [if_neg (by rw [hk]; decide), if_neg hy]
      have e2 : pkR F L l y = Rc.nil := by unfold pkR; rw [e1]; rfl
      rw [e1, e2]; clear e1 e2 hk
      have hs : y < 1601 ∨ (1601 ≤ y ∧ 9999 < y) := by omega
      clear hy
      rcases hs with h1 | ⟨h1, h2⟩
      all_goals
        go_enter Tryd.func40, Tryd.ntmps40
        go_wp2_with (first | refine wpList_row_g rfl 40 _ rfl _ rfl _ _ _ _ ((Wd.Blk.new w 40 (tbA F L A n c)).alloc (.cells z19 26)) Tryd.underlying40 rfl (by kernel_rfl) ?_)
        have x_1 := ((Wd.Blk.new w 40 (tbA F L A n c)).alloc (.cells z19 26))
        have z_1 := (blk_at (w.alloc (.cells (tbA F L A n c) 40)) 26 z19 (sz1 _ _ rfl))
        have inv_1 := ((i0.alloc (.cells (tbA F L A n c) 40)).alloc (.cells z19 26))
        refine (hch _ inv_1).mono ?_; rintro e w_1 ⟨rfl, hb_1⟩
        have xc_1 := x_1.below hb_1 x_1.lt
        have zc_1 := z_1.below hb_1 z_1.lt
        have invc_1 := inv_1.call hb_1
        clear x_1 z_1 inv_1 hb_1
        go_wp2_with (first | refine wpList_store_g rfl 26 _ _ rfl rfl _ 0 z19 z19 rfl rfl _ _ zc_1 (by show 0 + 19 ≤ 19; decide) (by kernel_rfl) (by kernel_rfl) (by kernel_rfl) ?_)
        exact bodyPost_ret (results_re rfl _ _ _ _ _ _ rfl rfl (Blk.row zc_1 _) rfl) rfl ⟨rfl, below_row invc_1.2 (Nat.le_add_right _ 1) _⟩
set_option maxRecDepth 100000 in
set_option maxHeartbeats 8000000 in
theorem rtat_any (F L : Int) (A : Option Addr) (n c B : Nat) (l : List Rc) (s : Int) (w : World) (hT : Tab w) (hR : Recs w B A n l) (hB : B ≤ w.heap.size) (hm : n ≤ maxLen) (hs : -9223372036854775808 ≤ s ∧ s ≤ 9223372036854775807) :
    Calls Tryd.prog 42 #[tbV F L A n c, .int .i64 s] w fun e w' => e = .returned (.tuple #[stateV (tOff F L l s) (tSum F L l s), .int .i64 (atE F L l s)]) ∧ Below w.heap.size w w' := by
  have i0 := Civ.Inv.start hT
  have hch := fun w' (h : Civ.Inv w w') => rtcheck_any F L A n c B l w' h.1 (hR.below (h.2.mono hB)) (Nat.le_trans hB h.2.size) hm
  have hpk := fun y w' (h : Civ.Inv w w') => rpick_any F L A n c B l y w' h.1 (hR.below (h.2.mono hB)) (Nat.le_trans hB h.2.size) hm
  have hyr := fun w' => ryear_any s w' hs.1 hs.2
  cases hk : tbOk F L l
  · have e1 : atE F L l s = 2 := by unfold atE; rw [if_pos hk]
    have e2 : tOff F L l s = 0 := by unfold tOff; rw [e1]; rfl
    have e3 : tSum F L l s = false := by unfold tSum; rw [e1]; rfl
    simp only [show tbE F L l = 2 by unfold tbE; rw [hk]; rfl] at hch
    rw [e1, e2, e3]; clear e1 e2 e3 hk hpk hyr
    go_enter Tryd.func42, Tryd.ntmps42
    go_wp2_with (first | refine wpList_row_g rfl 40 _ rfl _ rfl _ _ _ _ ((Wd.Blk.new w 40 (tbA F L A n c)).alloc (.cells (stA0 0 false) 43)) Tryd.underlying40 rfl (by kernel_rfl) ?_)
    have x_1 := ((Wd.Blk.new w 40 (tbA F L A n c)).alloc (.cells (stA0 0 false) 43))
    have z_1 := (blk_at (w.alloc (.cells (tbA F L A n c) 40)) 43 (stA0 0 false) (sz1 _ _ rfl))
    have inv_1 := ((i0.alloc (.cells (tbA F L A n c) 40)).alloc (.cells (stA0 0 false) 43))
    refine (hch _ inv_1).mono ?_; rintro e w_1 ⟨rfl, hb_1⟩
    have xc_1 := x_1.below hb_1 x_1.lt
    have zc_1 := z_1.below hb_1 z_1.lt
    have invc_1 := inv_1.call hb_1
    clear x_1 z_1 inv_1 hb_1
    go_wp2_with (first | refine wpList_store_g rfl 43 _ _ rfl rfl _ 0 (stA0 0 false) (stA0 0 false) rfl rfl _ _ zc_1 (by show 0 + 3 ≤ 3; decide) (by kernel_rfl) (by kernel_rfl) (by kernel_rfl) ?_)
    exact bodyPost_ret (results_se rfl _ _ _ _ _ _ rfl rfl (Blk.row zc_1 _) rfl) rfl ⟨rfl, below_row invc_1.2 (Nat.le_add_right _ 1) _⟩
  · simp only [show tbE F L l = 0 by unfold tbE; rw [if_pos hk]] at hch
    by_cases hy : yrE s = 0 ∧ 1601 ≤ yrV s
    · have e1 : atE F L l s = 0 := by unfold atE; rw [if_neg (by rw [hk]; decide), if_pos hy]
      have e2 : tOff F L l s = (pick F L l (yrV s)).off (yrV s) s := by unfold tOff; rw [if_pos e1]
      have e3 : tSum F L l s = (pick F L l (yrV s)).sum (yrV s) s := by unfold tSum; rw [if_pos e1]
      obtain ⟨_, y2, _, _⟩ := yr_bd hy.1
      obtain ⟨y0, y1⟩ := hy
      rw [e1, e2, e3]; clear e1 e2 e3
      have p1 : pkE F L l (yrV s) = 0 := by unfold pkE; rw [if_neg (by rw [hk]; decide), if_pos ⟨y1, y2⟩]
      have p2 : pkR F L l (yrV s) = pick F L l (yrV s) := by unfold pkR; rw [if_pos p1]
      have hpk := fun w' h => hpk (yrV s) w' h
      simp only [p1, p2] at hpk
      have hat := fun w' (hT : Tab w') => rat_at (t := s) hT (pick_bd hR hk (yrV s)) (pick_ok hk (yrV s)) y1 y2
      rw [y0] at hyr
      clear hk p1 p2
      generalize pick F L l (yrV s) = r at *
      generalize r.off (yrV s) s = o at *
      generalize r.sum (yrV s) s = k at *
      generalize yrV s = y at *
      clear y0
      go_enter Tryd.func42, Tryd.ntmps42
      go_wp2_with (first | refine wpList_row_g rfl 40 _ rfl _ rfl _ _ _ _ ((Wd.Blk.new w 40 (tbA F L A n c)).alloc (.cells (stA0 0 false) 43)) Tryd.underlying40 rfl (by kernel_rfl) ?_)
      have x_1 := ((Wd.Blk.new w 40 (tbA F L A n c)).alloc (.cells (stA0 0 false) 43))
      have z_1 := (blk_at (w.alloc (.cells (tbA F L A n c) 40)) 43 (stA0 0 false) (sz1 _ _ rfl))
      have inv_1 := ((i0.alloc (.cells (tbA F L A n c) 40)).alloc (.cells (stA0 0 false) 43))
      refine (hch _ inv_1).mono ?_; rintro e w_1 ⟨rfl, hb_1⟩
      have xc_1 := x_1.below hb_1 x_1.lt
      have zc_1 := z_1.below hb_1 z_1.lt
      have invc_1 := inv_1.call hb_1
      clear x_1 z_1 inv_1 hb_1
      go_wp2_with fail
      have x_2 := xc_1
      have z_2 := zc_1
      have inv_2 := invc_1
      refine (hyr _).mono ?_; rintro e w_2 ⟨rfl, hb_2⟩
      have xc_2 := x_2.below hb_2 x_2.lt
      have zc_2 := z_2.below hb_2 z_2.lt
      have invc_2 := inv_2.call hb_2
      clear x_2 z_2 inv_2 hb_2
      go_wp2_with (first | refine wpList_row_g rfl 40 _ rfl _ rfl _ _ _ _ xc_2 Tryd.underlying40 rfl (by kernel_rfl) ?_)
      have x_3 := xc_2
      have z_3 := zc_2
      have inv_3 := invc_2
      refine (hpk _ inv_3).mono ?_; rintro e w_3 ⟨rfl, hb_3⟩
      have xc_3 := x_3.below hb_3 x_3.lt
      have zc_3 := z_3.below hb_3 z_3.lt
      have invc_3 := inv_3.call hb_3
      clear x_3 z_3 inv_3 hb_3
      go_wp2_with (first | refine wpList_store_new rfl 26 _ _ rfl rfl w_3.heap.size r.A rfl rfl _ z19 w_3 rfl rfl rfl (by kernel_rfl) (by kernel_rfl) ?_ | refine wpList_row_g rfl 26 _ rfl _ rfl _ _ _ _ (Wd.Blk.new w_3 26 r.A) Tryd.underlying26 rfl (by kernel_rfl) ?_)
      have x_4 := (xc_3.alloc (.cells r.A 26))
      have z_4 := (zc_3.alloc (.cells r.A 26))
      have r_4 := (Wd.Blk.new w_3 26 r.A)
      have inv_4 := (invc_3.alloc (.cells r.A 26))
      refine (hat _ inv_4.1).mono ?_; rintro e w_4 ⟨rfl, hb_4⟩
      have xc_4 := x_4.below hb_4 x_4.lt
      have zc_4 := z_4.below hb_4 z_4.lt
      have rc_4 := r_4.below hb_4 r_4.lt
      have invc_4 := inv_4.call hb_4
      clear x_4 z_4 r_4 inv_4 hb_4
      go_wp2_with (first | refine wpList_store_g rfl 43 _ _ rfl rfl _ 0 (stA0 o k) (stA0 o k) rfl rfl _ _ zc_4 (by show 0 + 3 ≤ 3; decide) (by kernel_rfl) (by kernel_rfl) (by kernel_rfl) ?_)
      exact bodyPost_ret (results_se rfl _ _ _ _ _ _ rfl rfl (Blk.row zc_4 _) rfl) rfl ⟨rfl, below_row invc_4.2 (Nat.le_add_right _ 1) _⟩
    · have e1 : atE F L l s = 1 := by unfold atE; rw [if_neg (by rw [hk]; decide), if_neg hy]
      have e2 : tOff F L l s = 0 := by unfold tOff; rw [e1]; rfl
      have e3 : tSum F L l s = false := by unfold tSum; rw [e1]; rfl
      rw [e1, e2, e3]; clear e1 e2 e3 hk hpk
      have hc : yrE s = 1 ∨ (yrE s = 0 ∧ yrV s < 1601) := by rcases yr_01 s with q | q <;> omega
      clear hy
      rcases hc with y0 | ⟨y0, y1⟩
      all_goals
        rw [y0] at hyr
        clear y0
        generalize yrV s = y at *
        go_enter Tryd.func42, Tryd.ntmps42
        go_wp2_with (first | refine wpList_row_g rfl 40 _ rfl _ rfl _ _ _ _ ((Wd.Blk.new w 40 (tbA F L A n c)).alloc (.cells (stA0 0 false) 43)) Tryd.underlying40 rfl (by kernel_rfl) ?_)
        have x_1 := ((Wd.Blk.new w 40 (tbA F L A n c)).alloc (.cells (stA0 0 false) 43))
        have z_1 := (blk_at (w.alloc (.cells (tbA F L A n c) 40)) 43 (stA0 0 false) (sz1 _ _ rfl))
        have inv_1 := ((i0.alloc (.cells (tbA F L A n c) 40)).alloc (.cells (stA0 0 false) 43))
        refine (hch _ inv_1).mono ?_; rintro e w_1 ⟨rfl, hb_1⟩
        have xc_1 := x_1.below hb_1 x_1.lt
        have zc_1 := z_1.below hb_1 z_1.lt
        have invc_1 := inv_1.call hb_1
        clear x_1 z_1 inv_1 hb_1
        go_wp2_with fail
        have x_2 := xc_1
        have z_2 := zc_1
        have inv_2 := invc_1
        refine (hyr _).mono ?_; rintro e w_2 ⟨rfl, hb_2⟩
        have xc_2 := x_2.below hb_2 x_2.lt
        have zc_2 := z_2.below hb_2 z_2.lt
        have invc_2 := inv_2.call hb_2
        clear x_2 z_2 inv_2 hb_2
        go_wp2_with (first | refine wpList_store_g rfl 43 _ _ rfl rfl _ 0 (stA0 0 false) (stA0 0 false) rfl rfl _ _ zc_2 (by show 0 + 3 ≤ 3; decide) (by kernel_rfl) (by kernel_rfl) (by kernel_rfl) ?_)
        exact bodyPost_ret (results_se rfl _ _ _ _ _ _ rfl rfl (Blk.row zc_2 _) rfl) rfl ⟨rfl, below_row invc_2.2 (Nat.le_add_right _ 1) _⟩
end Go.Proofs.YtefcjccapekjdaaDoor.Rf
