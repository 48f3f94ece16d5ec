/-
  RECORDS OF OFFSETS (for a seat without record.Of): record.Plain, record.Make, walked.
-/
import Derived.Test.YtgdgkgeoigljcaaDoorQe
namespace Go.Proofs.YtgdgkgeoigljcaaDoor.Rec
open Go.ChangeShapes Go.WideShapes Go.ChangeAt Go.RowKit
open Go.Proofs.YtgdgkgeoigljcaaDoor
open Go.Proofs.YtgdgkgeoigljcaaDoor.Wd
open Go.Proofs.YtgdgkgeoigljcaaDoor.Civ (Tab Inv)
open Go.Proofs.YtgdgkgeoigljcaaDoor.Stp (stV Bd chkS zeroS okS)
set_option linter.unusedVariables false
theorem reads_one1 (w : World) (t : TypeId) (u : Value) : Reads (w.alloc (.cells #[u] t)) (w.heap.size + 1) 1 (some ⟨w.heap.size, 0, none⟩) 1 [u] :=
  ⟨rfl, fun _ => ⟨_, rfl, Nat.lt_succ_self _, fun j x hx => by
    match j, hx with
    | 0, hx => simp at hx; subst hx; simp [Addr.add]⟩⟩
set_option maxRecDepth 20000 in
set_option maxHeartbeats 1600000 in
theorem whole_any (A : Option Addr) (n c B : Nat) (xs : List Int) (w : World) (hr : Reads w B 1 A n (xs.map (Value.int .i64))) (hn : n ≤ 100) :
    Calls Tryd.prog 57 #[.slice A n c] w fun e w' => e = .returned (.bool (xs.all wholeM)) ∧ w' = w := by
  have hll : xs.length = n := by have := hr.1; simpa using this
  go_enter Tryd.func57, Tryd.ntmps57
  go_wp2
  go_loopw [4, 7] (fun _ i w' => ∃ k : Nat, i = .int .i64 k ∧ k ≤ n ∧ (xs.take k).all wholeM = true ∧ w' = w) (fun _ i _ => n - (intOf i).toNat)
  case atStart => exact ⟨0, rfl, Nat.zero_le _, by simp, rfl⟩
  case round =>
    obtain ⟨k, rfl, hk, hall, rfl⟩ := hrel
    have HA := Lib.hid hall; clear hall
    by_cases hlt : k < n
    · have hlt' : (k : Int) < (n : Int) := by omega
      have hkl : k < xs.length := by omega
      obtain ⟨ad, rfl, hcell⟩ := int_at hr hlt hkl
      have hT := Lib.hid (all_take (p := wholeM) hkl)
      have hNo := Lib.hid (all_no (p := wholeM) hkl)
      generalize xs[k] = z at *
      by_cases h1 : z % 60 = 0
      · have hz : wholeM z = true := by unfold wholeM; simpa using h1
        have hq : (z.tmod 60 != 0) = false := by rw [bne_eq_false_iff_eq]; exact (Cal.tm z 60).2 h1
        clear h1
        go_wp2
        go_roundw
        case rel => exact ⟨k + 1, by go_num, by omega, by rw [hT.out, HA.out, hz]; rfl, trivial⟩
        case measure => simp [intOf]; omega
      · have HF := Lib.hid (hNo.out (by unfold wholeM; simpa using h1))
        have hq : (z.tmod 60 != 0) = true := by rw [bne_iff_ne]; exact fun e => h1 ((Cal.tm z 60).1 e)
        clear h1
        go_wp2
        go_ret
        exact ⟨by rw [HF.out]; rfl, rfl⟩
    · obtain rfl : k = n := by omega
      have hlt' : ¬ (k : Int) < (k : Int) := by omega
      have hf := HA.out
      rw [List.take_of_length_le (by omega)] at hf
      have HF := Lib.hid hf; clear hf
      go_wp2
      go_ret
      exact ⟨by rw [HF.out]; rfl, rfl⟩
/-- a record's offsets -/
def okO (z : Int) : Bool := wholeM z && near z
def plV (z : Int) : Value := if okO z = true then rcV (-(z / 60)) 0 0 St.nil St.nil else rcV 0 0 0 St.nil St.nil
def plE (z : Int) : Int := if okO z = true then 0 else 1
def mkOk (x y : Int) (a b : St) : Bool := (okO x && okO y) && rcOk (-(x / 60)) 0 ((x - y) / 60) a b
def mkV (x y : Int) (a b : St) : Value := if mkOk x y a b = true then rcV (-(x / 60)) 0 ((x - y) / 60) a b else rcV 0 0 0 St.nil St.nil
def mkE (x y : Int) (a b : St) : Int := if (okO x && okO y) = true then (if rcOk (-(x / 60)) 0 ((x - y) / 60) a b = true then 0 else 2) else 1
theorem reads_1 (w : World) (t : TypeId) (a : Int) (n : Nat) (h : w.heap.size = n) : Reads (w.alloc (.cells #[.int .i64 a] t)) (n + 1) 1 (some ⟨n, 0, none⟩) 1 ([a].map (Value.int .i64)) := by subst h; exact reads_one1 w t _
theorem whole_iff {z : Int} (h : wholeM z = true) : z % 60 = 0 := by unfold wholeM at h; simpa using h
theorem okO_iff {z : Int} (h : okO z = true) : z % 60 = 0 ∧ -86400 ≤ z ∧ z ≤ 86400 := by
  unfold okO at h; rw [Bool.and_eq_true] at h; exact ⟨whole_iff h.1, near_iff h.2⟩
theorem quo60 (z : Int) (h : z % 60 = 0) : z.tdiv 60 = z / 60 := by
  obtain ⟨k, rfl⟩ : ∃ k, z = 60 * k := ⟨z / 60, by omega⟩
  rw [Int.mul_tdiv_cancel_left _ (by decide), Int.mul_ediv_cancel_left _ (by decide)]
set_option maxRecDepth 20000 in
set_option maxHeartbeats 3200000 in
theorem plain_any (z : Int) (w : World) :
    Calls Tryd.prog 28 #[.int .i64 z] w fun e w' => e = .returned (.tuple #[plV z, .int .i64 (plE z)]) ∧ Below w.heap.size w w' := by
  have x0 := (Blk.new w 26 z19).alloc (.cells #[.int .i64 z] 2)
  have B1 := ((Below.refl w.heap.size w).alloc (Nat.le_refl _) (.cells z19 26)).alloc ((Below.refl w.heap.size w).alloc (Nat.le_refl _) (.cells z19 26)).size (.cells #[.int .i64 z] 2)
  have hn : (w.alloc (.cells z19 26)).heap.size = w.heap.size + 1 := by show (w.heap.push _).size = _; exact Array.size_push _
  have rd := reads_1 (w.alloc (.cells z19 26)) 2 z _ hn
  unfold z19 at rd B1 x0
  go_enter Tryd.func28, Tryd.ntmps28
  go_wp2_with fail
  refine (whole_any _ 1 1 _ [z] _ rd (by decide)).mono ?_; rintro e w2 ⟨rfl, rfl⟩
  cases hw : [z].all wholeM
  · have hw' : wholeM z = false := by simpa using hw
    have HV := Lib.hid (show plV z = rcV 0 0 0 St.nil St.nil ∧ plE z = 1 by unfold plV plE okO; rw [hw']; exact ⟨rfl, rfl⟩)
    clear hw hw'
    go_wp2_with (refine wpList_store_seg rfl 26 _ _ rfl rfl _ 0 z19 z19 rfl rfl _ _ x0 (by decide) (by kernel_rfl) (by kernel_rfl) (by kernel_rfl) ?_)
    exact bodyPost_ret (results_zero rfl _ _ _ _ _ _ rfl rfl (Blk.row x0 _) rfl) rfl ⟨by rw [HV.out.1, HV.out.2]; rfl, below_row B1 (Nat.le_refl _) _⟩
  · have hw' : wholeM z = true := by simpa using hw
    have HW := Lib.hid hw'
    clear hw hw'
    have x1 := x0.alloc (.cells #[.int .i64 z] 2)
    have B2 := B1.alloc B1.size (.cells #[.int .i64 z] 2)
    have hn2 : ((w.alloc (.cells z19 26)).alloc (.cells #[.int .i64 z] 2)).heap.size = w.heap.size + 2 := by show ((w.heap.push _).push _).size = _; rw [Array.size_push, Array.size_push]
    have rd2 := reads_1 ((w.alloc (.cells z19 26)).alloc (.cells #[.int .i64 z] 2)) 2 z _ hn2
    unfold z19 at rd2
    go_wp2_with fail
    refine (inside_any _ 1 1 _ [z] _ rd2 (by decide)).mono ?_; rintro e w3 ⟨rfl, rfl⟩
    cases hi : [z].all near
    · have hi' : near z = false := by simpa using hi
      have HV := Lib.hid (show plV z = rcV 0 0 0 St.nil St.nil ∧ plE z = 1 by unfold plV plE okO; rw [HW.out, hi']; exact ⟨rfl, rfl⟩)
      clear hi hi'
      go_wp2_with (refine wpList_store_seg rfl 26 _ _ rfl rfl _ 0 z19 z19 rfl rfl _ _ x1 (by decide) (by kernel_rfl) (by kernel_rfl) (by kernel_rfl) ?_)
      exact bodyPost_ret (results_zero rfl _ _ _ _ _ _ rfl rfl (Blk.row x1 _) rfl) rfl ⟨by rw [HV.out.1, HV.out.2]; rfl, below_row B2 (Nat.le_refl _) _⟩
    · have hi' : near z = true := by simpa using hi
      have ho : okO z = true := by unfold okO; rw [HW.out, hi']; rfl
      have HV := Lib.hid (show plV z = rcV (-(z / 60)) 0 0 St.nil St.nil ∧ plE z = 0 by unfold plV plE; rw [ho]; exact ⟨rfl, rfl⟩)
      have hz := okO_iff ho
      clear ho hi hi' HW
      have hq : (-z).tdiv 60 = -(z / 60) := by rw [quo60 _ (by omega)]; omega
      have hq1 : -2147483648 ≤ -(z / 60) ∧ -(z / 60) < 2147483648 := by omega
      go_wp2_with (refine wpList_store_seg rfl 26 _ _ rfl rfl _ 0 (rcA (-(z / 60)) 0 0 St.nil St.nil) (rcA (-(z / 60)) 0 0 St.nil St.nil) rfl rfl _ _ x1 (by show 0 + 19 ≤ 19; decide) (by kernel_rfl) (by kernel_rfl) (by kernel_rfl) ?_)
      exact bodyPost_ret (results_zero rfl _ _ _ _ _ _ rfl rfl (Blk.row x1 _) rfl) rfl ⟨by rw [HV.out.1, HV.out.2]; rfl, below_row B2 (Nat.le_refl _) _⟩
theorem mk_bad {x y : Int} {a b : St} (h : (okO x && okO y) = false) : mkV x y a b = rcV 0 0 0 St.nil St.nil ∧ mkE x y a b = 1 := by unfold mkV mkE mkOk; rw [h]; exact ⟨rfl, rfl⟩
theorem reads_2 (w : World) (t : TypeId) (a b : Int) (n : Nat) (h : w.heap.size = n) : Reads (w.alloc (.cells #[.int .i64 a, .int .i64 b] t)) (n + 1) 1 (some ⟨n, 0, none⟩) 2 ([a, b].map (Value.int .i64)) := by subst h; exact reads_two w t _ _
set_option maxRecDepth 20000 in
set_option maxHeartbeats 3200000 in
theorem make_any (x y : Int) (a b : St) (w : World) (hT : Tab w) (Ba : a.Bd) (Bb : b.Bd) (hx : -9223372036854775808 ≤ x ∧ x ≤ 9223372036854775807) (hy : -9223372036854775808 ≤ y ∧ y ≤ 9223372036854775807) :
    Calls Tryd.prog 32 #[.int .i64 x, .int .i64 y, .agg (sA a), .agg (sA b)] w fun e w' => e = .returned (.tuple #[mkV x y a b, .int .i64 (mkE x y a b)]) ∧ Below w.heap.size w w' := by
  have A1 := (Below.refl w.heap.size w).alloc (Nat.le_refl _) (.cells (sA a) 24)
  have A2 := A1.alloc A1.size (.cells (sA b) 24)
  have A3 := A2.alloc A2.size (.cells z19 26)
  have A4 := A3.alloc A3.size (.cells #[.int .i64 x, .int .i64 y] 2)
  have x0 := ((Blk.new ((w.alloc (.cells (sA a) 24)).alloc (.cells (sA b) 24)) 26 z19).alloc (.cells #[.int .i64 x, .int .i64 y] 2))
  have hn := sz1 ((w.alloc (.cells (sA a) 24)).alloc (.cells (sA b) 24)) (.cells z19 26) (sz1 (w.alloc (.cells (sA a) 24)) (.cells (sA b) 24) (sz1 w (.cells (sA a) 24) rfl))
  have rd := reads_2 (((w.alloc (.cells (sA a) 24)).alloc (.cells (sA b) 24)).alloc (.cells z19 26)) 2 x y _ hn
  rw [show ((w.alloc (.cells (sA a) 24)).alloc (.cells (sA b) 24)).heap.size = w.heap.size + 1 + 1 from sz1 _ _ (sz1 _ _ rfl)] at x0
  unfold z19 sA at rd A4 x0
  clear A1 A2 A3
  go_enter Tryd.func32, Tryd.ntmps32
  go_wp2_with fail
  refine (whole_any _ 2 2 _ [x, y] _ rd (by decide)).mono ?_; rintro e w2 ⟨rfl, rfl⟩
  cases hw : [x, y].all wholeM
  · have HV := Lib.hid (mk_bad (x := x) (y := y) (a := a) (b := b) (by
      have h2 : (wholeM x && wholeM y) = false := by simpa using hw
      unfold okO
      cases h3 : wholeM x
      · simp
      · rw [h3] at h2; simp at h2; simp [h2]))
    clear hw
    go_wp2_with (refine wpList_store_seg rfl 26 _ _ rfl rfl _ 0 z19 z19 rfl rfl _ _ x0 (by decide) (by kernel_rfl) (by kernel_rfl) (by kernel_rfl) ?_)
    exact bodyPost_ret (results_zero rfl _ _ _ _ _ _ rfl rfl (Blk.row x0 _) rfl) rfl ⟨by rw [HV.out.1, HV.out.2]; rfl, below_row A4 (Nat.le_add_right _ 2) _⟩
  · have HW := Lib.hid (show wholeM x = true ∧ wholeM y = true by simpa using hw)
    clear hw
    have x1 := x0.alloc (.cells #[.int .i64 x, .int .i64 y] 2)
    have A5 := A4.alloc A4.size (.cells #[.int .i64 x, .int .i64 y] 2)
    have rd2 := reads_2 ((((w.alloc (.cells (sA a) 24)).alloc (.cells (sA b) 24)).alloc (.cells z19 26)).alloc (.cells #[.int .i64 x, .int .i64 y] 2)) 2 x y _ (sz1 _ _ hn)
    unfold z19 sA at rd2
    clear rd x0 A4
    go_wp2_with fail
    refine (inside_any _ 2 2 _ [x, y] _ rd2 (by decide)).mono ?_; rintro e w3 ⟨rfl, rfl⟩
    clear rd2
    cases hi : [x, y].all near
    · have HV := Lib.hid (mk_bad (x := x) (y := y) (a := a) (b := b) (by
        have h2 : (near x && near y) = false := by simpa using hi
        unfold okO
        rw [HW.out.1, HW.out.2]
        simpa using hi))
      clear hi
      go_wp2_with (refine wpList_store_seg rfl 26 _ _ rfl rfl _ 0 z19 z19 rfl rfl _ _ x1 (by decide) (by kernel_rfl) (by kernel_rfl) (by kernel_rfl) ?_)
      exact bodyPost_ret (results_zero rfl _ _ _ _ _ _ rfl rfl (Blk.row x1 _) rfl) rfl ⟨by rw [HV.out.1, HV.out.2]; rfl, below_row A5 (Nat.le_add_right _ 2) _⟩
    · have ho : okO x = true ∧ okO y = true := by
        have h2 : near x = true ∧ near y = true := by simpa using hi
        unfold okO; rw [HW.out.1, HW.out.2, h2.1, h2.2]; exact ⟨rfl, rfl⟩
      have hzx := okO_iff ho.1
      have hzy := okO_iff ho.2
      have HO := Lib.hid ho
      clear ho hi HW
      have hq : (-x).tdiv 60 = -(x / 60) := by rw [quo60 _ (by omega)]; omega
      have hq2 : (x - y).tdiv 60 = (x - y) / 60 := quo60 _ (by omega)
      have hq1 : -2147483648 ≤ -(x / 60) ∧ -(x / 60) < 2147483648 := by omega
      have hq3 : -2147483648 ≤ (x - y) / 60 ∧ (x - y) / 60 < 2147483648 := by omega
      have x2 := x1.alloc (.cells z19 26)
      have y2 := Blk.new (((((w.alloc (.cells (sA a) 24)).alloc (.cells (sA b) 24)).alloc (.cells z19 26)).alloc (.cells #[.int .i64 x, .int .i64 y] 2)).alloc (.cells #[.int .i64 x, .int .i64 y] 2)) 26 z19
      have A6 := A5.alloc A5.size (.cells z19 26)
      have hn5 := sz1 ((((w.alloc (.cells (sA a) 24)).alloc (.cells (sA b) 24)).alloc (.cells z19 26)).alloc (.cells #[.int .i64 x, .int .i64 y] 2)) (.cells #[.int .i64 x, .int .i64 y] 2) (sz1 _ (.cells #[.int .i64 x, .int .i64 y] 2) hn)
      rw [hn5] at y2
      clear x1 A5 hn hn5
      unfold z19 sA at y2
      unfold z19 at x2 A6
      have y3 := Blk.row y2 (rcA (-(x / 60)) 0 ((x - y) / 60) a b)
      have x3 := Blk.rowFar x2 (by omega) (g' := w.heap.size + 1 + 1 + 1 + 1 + 1) (rcA (-(x / 60)) 0 ((x - y) / 60) a b)
      have A7 := below_row A6 (show w.heap.size ≤ w.heap.size + 1 + 1 + 1 + 1 + 1 by omega) (rcA (-(x / 60)) 0 ((x - y) / 60) a b)
      go_wp2_with (first
        | refine wpList_store_seg rfl 26 _ _ rfl rfl _ 0 (rcA (-(x / 60)) 0 ((x - y) / 60) a b) (rcA (-(x / 60)) 0 ((x - y) / 60) a b) rfl rfl _ _ y2 (by show 0 + 19 ≤ 19; decide) (by kernel_rfl) (by kernel_rfl) (by kernel_rfl) ?_
        | refine wpList_load_row rfl 26 _ rfl _ rfl _ _ _ _ y3 Tryd.underlying26 rfl (by kernel_rfl) ?_)
      refine (chk_any (-(x / 60)) 0 ((x - y) / 60) a b _ (hT.below hT.1 A7) ⟨by constructor <;> omega, by constructor <;> omega, by constructor <;> omega, Ba, Bb⟩).mono ?_; rintro e w4 ⟨rfl, hb4⟩
      have x4 := x3.below hb4 x3.lt
      have y4 := y3.below hb4 y3.lt
      have A8 := A7.trans (hb4.mono A7.size)
      clear x3 y3 A7 hb4 x2 y2 A6
      cases hr : rcOk (-(x / 60)) 0 ((x - y) / 60) a b
      · have HV := Lib.hid (show mkV x y a b = rcV 0 0 0 St.nil St.nil ∧ mkE x y a b = 2 by
          unfold mkV mkE mkOk; rw [HO.out.1, HO.out.2, hr]; exact ⟨rfl, rfl⟩)
        have he : rcE (-(x / 60)) 0 ((x - y) / 60) a b = 2 := by unfold rcE; rw [hr]; rfl
        rw [he]
        clear he hr HO hq hq2 hq1 hq3 hzx hzy y4
        go_wp2_with (refine wpList_store_seg rfl 26 _ _ rfl rfl _ 0 z19 z19 rfl rfl _ _ x4 (by decide) (by kernel_rfl) (by kernel_rfl) (by kernel_rfl) ?_)
        exact bodyPost_ret (results_zero rfl _ _ _ _ _ _ rfl rfl (Blk.row x4 _) rfl) rfl ⟨by rw [HV.out.1, HV.out.2]; rfl, below_row A8 (Nat.le_add_right _ 2) _⟩
      · have HV := Lib.hid (show mkV x y a b = rcV (-(x / 60)) 0 ((x - y) / 60) a b ∧ mkE x y a b = 0 by
          unfold mkV mkE mkOk; rw [HO.out.1, HO.out.2, hr]; exact ⟨rfl, rfl⟩)
        have he : rcE (-(x / 60)) 0 ((x - y) / 60) a b = 0 := by unfold rcE; rw [hr]; rfl
        rw [he]
        clear he hr HO hq hq2 hq1 hq3 hzx hzy
        go_wp2_with (first
          | refine wpList_load_row rfl 26 _ rfl _ rfl _ _ _ _ y4 Tryd.underlying26 rfl (by kernel_rfl) ?_
          | refine wpList_store_seg rfl 26 _ _ rfl rfl _ 0 (rcA (-(x / 60)) 0 ((x - y) / 60) a b) (rcA (-(x / 60)) 0 ((x - y) / 60) a b) rfl rfl _ _ x4 (by show 0 + 19 ≤ 19; decide) (by kernel_rfl) (by kernel_rfl) (by kernel_rfl) ?_)
        exact bodyPost_ret (results_zero rfl _ _ _ _ _ _ rfl rfl (Blk.row x4 _) rfl) rfl ⟨by rw [HV.out.1, HV.out.2]; rfl, below_row A8 (Nat.le_add_right _ 2) _⟩
end Go.Proofs.YtgdgkgeoigljcaaDoor.Rec
