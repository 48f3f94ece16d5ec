/-
  THE REFERENCE, walked: a record of offsets and stamps.
-/
import Derived.Test.YtgdgkgeoigljcaaDoorQm
import Derived.Test.YtgdgkgeoigljcaaDoorRrA
namespace Go.Proofs.YtgdgkgeoigljcaaDoor.Rf
open Go.ChangeShapes Go.WideShapes Go.ChangeAt Go.RowKit
open Go.Proofs.YtgdgkgeoigljcaaDoor
open Go.Proofs.YtgdgkgeoigljcaaDoor.Wd
open Go.Proofs.YtgdgkgeoigljcaaDoor.Rec
open Go.Proofs.YtgdgkgeoigljcaaDoor.Civ (Tab Inv)
set_option linter.unusedVariables false
theorem tm_60 (z : Int) : (z.tmod 60 != 0) = !wholeM z := by
  have := Cal.tm z 60
  unfold wholeM
  by_cases h : z % 60 = 0
  · have e := this.2 h; simp [h, e]
  · have e : z.tmod 60 ≠ 0 := fun e => h (this.1 e)
    simp [h, e]
set_option maxRecDepth 20000 in
set_option maxHeartbeats 3200000 in
theorem rmake_any (x y : Int) (a b : St) (w : World) (hT : Tab w) (Ba : a.Bd) (Bb : b.Bd) (hx : -9223372036854775808 ≤ x ∧ x ≤ 9223372036854775807) (hy : -9223372036854775808 ≤ y ∧ y ≤ 9223372036854775807) :
    Calls Tryd.prog 38 #[.int .i64 x, .int .i64 y, .agg (sA a), .agg (sA b)] w fun e w' => e = .returned (.tuple #[mkV x y a b, .int .i64 (mkE x y a b)]) ∧ Below w.heap.size w w' := by
  have A1 := (Below.refl w.heap.size w).alloc (Nat.le_refl _) (.cells (sA a) 24)
  have A2 := A1.alloc A1.size (.cells (sA b) 24)
  have A3 := A2.alloc A2.size (.cells z19 26)
  have xa := ((Blk.new w 24 (sA a)).alloc (.cells (sA b) 24)).alloc (.cells z19 26)
  have xb := (blk_at (w.alloc (.cells (sA a) 24)) 24 (sA b) (sz1 w _ rfl)).alloc (.cells z19 26)
  have x0 := blk_at ((w.alloc (.cells (sA a) 24)).alloc (.cells (sA b) 24)) 26 z19 (sz1 _ _ (sz1 w _ rfl))
  unfold sA at xa xb A3
  unfold sA at x0
  have hr := fun w' => rnear_any x w'
  have hr2 := fun w' => rnear_any y w'
  have t1 := tm_60 x
  have t2 := tm_60 y
  cases hwx : wholeM x with
  | false =>
    have HV := Lib.hid (mk_bad (x := x) (y := y) (a := a) (b := b) (by unfold okO; rw [hwx]; rfl))
    rw [hwx] at t1
    clear hwx hr hr2 t2
    go_enter Tryd.func38, Tryd.ntmps38
    go_wp2_with (refine wpList_store_seg rfl 26 _ _ rfl rfl _ 0 z19 z19 rfl rfl _ _ x0 (by decide) (by kernel_rfl) (by kernel_rfl) (by kernel_rfl) ?_)
    exact bodyPost_ret (results_zero rfl _ _ _ _ _ _ rfl rfl (Blk.row x0 _) rfl) rfl ⟨by rw [HV.out.1, HV.out.2]; rfl, below_row A3 (Nat.le_add_right _ 2) _⟩
  | true =>
    rw [hwx] at t1
    cases hwy : wholeM y with
    | false =>
      have HV := Lib.hid (mk_bad (x := x) (y := y) (a := a) (b := b) (by unfold okO; rw [hwx, hwy]; simp))
      rw [hwy] at t2
      clear hwx hwy hr hr2
      go_enter Tryd.func38, Tryd.ntmps38
      go_wp2_with (refine wpList_store_seg rfl 26 _ _ rfl rfl _ 0 z19 z19 rfl rfl _ _ x0 (by decide) (by kernel_rfl) (by kernel_rfl) (by kernel_rfl) ?_)
      exact bodyPost_ret (results_zero rfl _ _ _ _ _ _ rfl rfl (Blk.row x0 _) rfl) rfl ⟨by rw [HV.out.1, HV.out.2]; rfl, below_row A3 (Nat.le_add_right _ 2) _⟩
    | true =>
      rw [hwy] at t2
      cases hnx : near x with
      | false =>
        have HV := Lib.hid (mk_bad (x := x) (y := y) (a := a) (b := b) (by unfold okO; rw [hnx]; simp))
        rw [hnx] at hr
        clear hwx hwy hnx hr2
        go_enter Tryd.func38, Tryd.ntmps38
        go_wp2_with (first | (go_at_call 50; refine (hr _).mono ?_; rintro e wq ⟨rfl, rfl⟩) | refine wpList_store_seg rfl 26 _ _ rfl rfl _ 0 z19 z19 rfl rfl _ _ x0 (by decide) (by kernel_rfl) (by kernel_rfl) (by kernel_rfl) ?_)
        exact bodyPost_ret (results_zero rfl _ _ _ _ _ _ rfl rfl (Blk.row x0 _) rfl) rfl ⟨by rw [HV.out.1, HV.out.2]; rfl, below_row A3 (Nat.le_add_right _ 2) _⟩
      | true =>
        rw [hnx] at hr
        cases hny : near y with
        | false =>
          have HV := Lib.hid (mk_bad (x := x) (y := y) (a := a) (b := b) (by unfold okO; rw [hny]; simp))
          rw [hny] at hr2
          clear hwx hwy hnx hny
          go_enter Tryd.func38, Tryd.ntmps38
          go_wp2_with fail
          refine (hr _).mono ?_; rintro e wq ⟨rfl, rfl⟩
          go_wp2_with fail
          refine (hr2 _).mono ?_; rintro e wq ⟨rfl, rfl⟩
          go_wp2_with (refine wpList_store_seg rfl 26 _ _ rfl rfl _ 0 z19 z19 rfl rfl _ _ x0 (by decide) (by kernel_rfl) (by kernel_rfl) (by kernel_rfl) ?_)
          exact bodyPost_ret (results_zero rfl _ _ _ _ _ _ rfl rfl (Blk.row x0 _) rfl) rfl ⟨by rw [HV.out.1, HV.out.2]; rfl, below_row A3 (Nat.le_add_right _ 2) _⟩
        | true =>
          rw [hny] at hr2
          have ho : okO x = true ∧ okO y = true := by unfold okO; rw [hwx, hwy, hnx, hny]; exact ⟨rfl, rfl⟩
          have hzx := okO_iff ho.1
          have hzy := okO_iff ho.2
          have HO := Lib.hid ho
          clear ho hwx hwy hnx hny
          have hq : (-x).tdiv 60 = -(x / 60) := by rw [quo60 _ (by omega)]; omega
          have hq2 : (x - y).tdiv 60 = (x - y) / 60 := quo60 _ (by omega)
          have hq1 : -2147483648 ≤ -(x / 60) ∧ -(x / 60) < 2147483648 := by omega
          have hq3 : -2147483648 ≤ (x - y) / 60 ∧ (x - y) / 60 < 2147483648 := by omega
          go_enter Tryd.func38, Tryd.ntmps38
          go_wp2_with fail
          refine (hr _).mono ?_; rintro e wq ⟨rfl, rfl⟩
          go_wp2_with fail
          refine (hr2 _).mono ?_; rintro e wq ⟨rfl, rfl⟩
          clear hr hr2 t1 t2
          have x2 := x0.alloc (.cells z19 26)
          have y2 := Blk.new (((w.alloc (.cells (sA a) 24)).alloc (.cells (sA b) 24)).alloc (.cells z19 26)) 26 z19
          have A6 := A3.alloc A3.size (.cells z19 26)
          have hn5 := sz1 ((w.alloc (.cells (sA a) 24)).alloc (.cells (sA b) 24)) (.cells z19 26) (sz1 _ (.cells (sA b) 24) (sz1 w (.cells (sA a) 24) rfl))
          rw [hn5] at y2
          clear hn5
          unfold z19 sA at y2
          unfold z19 at x2 A6
          have y3 := Blk.row y2 (rcA (-(x / 60)) 0 ((x - y) / 60) a b)
          have x3 := Blk.rowFar x2 (by omega) (g' := w.heap.size + 1 + 1 + 1) (rcA (-(x / 60)) 0 ((x - y) / 60) a b)
          have A7 := below_row A6 (show w.heap.size ≤ w.heap.size + 1 + 1 + 1 by omega) (rcA (-(x / 60)) 0 ((x - y) / 60) a b)
          go_wp2_with (first
            | refine wpList_load_row rfl 24 _ rfl _ rfl _ _ _ _ xa Tryd.underlying24 rfl (by kernel_rfl) ?_
            | refine wpList_load_row rfl 24 _ rfl _ rfl _ _ _ _ xb Tryd.underlying24 rfl (by kernel_rfl) ?_
            | refine wpList_store_seg rfl 26 _ _ rfl rfl _ 0 (rcA (-(x / 60)) 0 ((x - y) / 60) a b) (rcA (-(x / 60)) 0 ((x - y) / 60) a b) rfl rfl _ _ y2 (by show 0 + 19 ≤ 19; decide) (by kernel_rfl) (by kernel_rfl) (by kernel_rfl) ?_
            | refine wpList_load_row rfl 26 _ rfl _ rfl _ _ _ _ y3 Tryd.underlying26 rfl (by kernel_rfl) ?_)
          refine (rrc_any (-(x / 60)) 0 ((x - y) / 60) a b _ (hT.below hT.1 A7) ⟨by constructor <;> omega, by constructor <;> omega, by constructor <;> omega, Ba, Bb⟩).mono ?_; rintro e w4 ⟨rfl, hb4⟩
          have x4 := x3.below hb4 x3.lt
          have y4 := y3.below hb4 y3.lt
          have A8 := A7.trans (hb4.mono A7.size)
          clear x3 y3 A7 hb4 x2 y2 A6 xa xb x0 A1 A2 A3
          cases hrk : rcOk (-(x / 60)) 0 ((x - y) / 60) a b
          · have HV := Lib.hid (show mkV x y a b = rcV 0 0 0 St.nil St.nil ∧ mkE x y a b = 2 by
              unfold mkV mkE mkOk; rw [HO.out.1, HO.out.2, hrk]; exact ⟨rfl, rfl⟩)
            have he : rcE (-(x / 60)) 0 ((x - y) / 60) a b = 2 := by unfold rcE; rw [hrk]; rfl
            rw [he]
            clear he hrk HO hq hq2 hq1 hq3 hzx hzy y4
            go_wp2_with (refine wpList_store_seg rfl 26 _ _ rfl rfl _ 0 z19 z19 rfl rfl _ _ x4 (by decide) (by kernel_rfl) (by kernel_rfl) (by kernel_rfl) ?_)
            exact bodyPost_ret (results_zero rfl _ _ _ _ _ _ rfl rfl (Blk.row x4 _) rfl) rfl ⟨by rw [HV.out.1, HV.out.2]; rfl, below_row A8 (Nat.le_add_right _ 2) _⟩
          · have HV := Lib.hid (show mkV x y a b = rcV (-(x / 60)) 0 ((x - y) / 60) a b ∧ mkE x y a b = 0 by
              unfold mkV mkE mkOk; rw [HO.out.1, HO.out.2, hrk]; exact ⟨rfl, rfl⟩)
            have he : rcE (-(x / 60)) 0 ((x - y) / 60) a b = 0 := by unfold rcE; rw [hrk]; rfl
            rw [he]
            clear he hrk HO hq hq2 hq1 hq3 hzx hzy
            go_wp2_with (first
              | refine wpList_load_row rfl 26 _ rfl _ rfl _ _ _ _ y4 Tryd.underlying26 rfl (by kernel_rfl) ?_
              | refine wpList_store_seg rfl 26 _ _ rfl rfl _ 0 (rcA (-(x / 60)) 0 ((x - y) / 60) a b) (rcA (-(x / 60)) 0 ((x - y) / 60) a b) rfl rfl _ _ x4 (by show 0 + 19 ≤ 19; decide) (by kernel_rfl) (by kernel_rfl) (by kernel_rfl) ?_)
            exact bodyPost_ret (results_zero rfl _ _ _ _ _ _ rfl rfl (Blk.row x4 _) rfl) rfl ⟨by rw [HV.out.1, HV.out.2]; rfl, below_row A8 (Nat.le_add_right _ 2) _⟩
/-- the plain one is that of two alike -/
theorem pl_mk (z : Int) : plV z = mkV z z St.nil St.nil ∧ plE z = mkE z z St.nil St.nil := by
  cases h : okO z with
  | false => unfold plV plE mkV mkE mkOk; simp [h]
  | true =>
    have hz := okO_iff h
    have hr : rcOk (-(z / 60)) 0 ((z - z) / 60) St.nil St.nil = true := by
      rw [rc_all]
      have e0 : (z - z) / 60 = 0 := by omega
      have e1 : near (offS (-(z / 60)) 0) = true := by unfold near offS; rw [decide_eq_true_iff]; omega
      have e2 : St.nil.chk = 0 := by decide
      rw [e0, e1, e2]; rfl
    have e0 : (z - z) / 60 = 0 := by omega
    unfold plV plE mkV mkE mkOk
    rw [h, hr, e0]
    exact ⟨rfl, rfl⟩
theorem bdN : St.nil.Bd := by refine ⟨⟨?_, ?_⟩, ⟨?_, ?_⟩, ⟨?_, ?_⟩, ⟨?_, ?_⟩, ⟨?_, ?_⟩, ⟨?_, ?_⟩, ⟨?_, ?_⟩, ⟨?_, ?_⟩⟩ <;> decide
theorem mk_cells (x y : Int) (a b : St) : ∃ cs : Array Value, mkV x y a b = .agg cs ∧ cs.size = 19 ∧ cs.all (·.oneCell') = true := by
  unfold mkV; split
  · exact ⟨_, rfl, rfl, by kernel_rfl⟩
  · exact ⟨_, rfl, rfl, by kernel_rfl⟩
set_option maxRecDepth 20000 in
set_option maxHeartbeats 1600000 in
theorem rplain_any (z : Int) (w : World) (hT : Tab w) (hz : -9223372036854775808 ≤ z ∧ z ≤ 9223372036854775807) :
    Calls Tryd.prog 35 #[.int .i64 z] w fun e w' => e = .returned (.tuple #[plV z, .int .i64 (plE z)]) ∧ Below w.heap.size w w' := by
  obtain ⟨e1, e2⟩ := pl_mk z
  rw [e1, e2]
  have i1 := (Inv.start hT).alloc (.cells z19 26)
  have x0 := Blk.new w 26 z19
  obtain ⟨cs, hcs, hsz, hone⟩ := mk_cells z z St.nil St.nil
  have hm := fun w' hT' => rmake_any z z St.nil St.nil w' hT' bdN bdN hz hz
  rw [hcs]
  simp only [hcs] at hm
  generalize mkE z z St.nil St.nil = E at *
  unfold z19 at i1 x0
  clear e1 e2 hcs
  go_enter Tryd.func35, Tryd.ntmps35
  go_wp2_with fail
  refine (hm _ i1.1).mono ?_; rintro e w1 ⟨rfl, hb1⟩
  have i2 := i1.call hb1
  have x2 := x0.below hb1 x0.lt
  go_wp2_with (refine wpList_store_seg rfl 26 _ _ rfl rfl _ 0 cs cs rfl rfl _ _ x2 (by show 0 + cs.size ≤ 19; omega) (by rw [hsz]; kernel_rfl) hone (by simp [hsz]) ?_)
  exact bodyPost_ret (results_zero rfl _ _ _ _ _ _ rfl rfl (Blk.row x2 _) hsz) rfl ⟨rfl, below_row i2.2 (Nat.le_refl _) _⟩
end Go.Proofs.YtgdgkgeoigljcaaDoor.Rf
