/-
  STAMPS: stamp.Local, walked: when a stamp is in a year.
-/
import Derived.Test.YtgdgkgeoigljcaaDoorStpR
namespace Go.Proofs.YtgdgkgeoigljcaaDoor.Stp
open Go.ChangeShapes Go.WideShapes Go.ChangeAt Go.RowKit
open Go.Proofs.YtgdgkgeoigljcaaDoor
open Go.Proofs.YtgdgkgeoigljcaaDoor.Civ (Tab bcell ret_bool ret_int ret_two Inv dateE)
set_option linter.unusedVariables false
/-- the time of the day -/
def msT (h i s u : Int) : Int := h * 3600000 + i * 60000 + s * 1000 + u
def lcV (y m v d h i s u Y : Int) : Int := if dtE y m v d h i s u Y = 0 then Cal.num (dtY y m v d h i s u Y) (dtM y m v d h i s u Y) (dtD y m v d h i s u Y) * 86400000 + msT h i s u else 0
theorem pick_bd {Y m v d : Int} (hv : 0 ≤ v) (h1 : 1 ≤ d) (h2 : d ≤ 5) : 1 ≤ pickD Y m v d ∧ pickD Y m v d ≤ Cal.mlen Y m := by
  have lb := Cal.mlen_bd Y m
  unfold pickD dayK
  split <;> omega
/-- a date that is told is one -/
theorem dt_ok {y m v d h i s u Y : Int} (B : Bd y m v d h i s u) (he : dtE y m v d h i s u Y = 0) :
    Cal.okD (dtY y m v d h i s u Y) (dtM y m v d h i s u Y) (dtD y m v d h i s u Y) = true ∧ dtY y m v d h i s u Y = Y ∧ dtM y m v d h i s u Y = m ∧ 1601 ≤ Y ∧ Y ≤ 9999 ∧ 1 ≤ m ∧ m ≤ 12 ∧ v ≤ 6 ∧ h ≤ 23 ∧ i ≤ 59 ∧ s ≤ 59 ∧ u ≤ 999 ∧ 1 ≤ d := by
  have hk : okS y m v d h i s u = true := by
    cases hh : okS y m v d h i s u with
    | true => rfl
    | false => unfold dtE at he; rw [if_pos hh] at he; cases he
  have hY : 1601 ≤ Y ∧ Y ≤ 9999 := by
    apply Decidable.byContradiction; intro hc
    unfold dtE at he; rw [if_neg (by rw [hk]; decide), if_pos hc] at he; cases he
  have hn : noneS y m v d h i s u Y = false := by
    cases hh : noneS y m v d h i s u Y with
    | false => rfl
    | true => unfold dtE at he; rw [if_neg (by rw [hk]; decide), if_neg (by omega), if_pos hh] at he; cases he
  have hz : zeroS y m v d h i s u = false := by
    cases hh : zeroS y m v d h i s u with
    | false => rfl
    | true => unfold noneS at hn; rw [hh] at hn; cases hn
  obtain ⟨n, dy⟩ := not_zero hk hz
  obtain ⟨n1, n2, n3, n4, n5, n6, n7, n8⟩ := num_iff.1 n
  have e1 : dtY y m v d h i s u Y = Y := by unfold dtY; rw [if_pos he]
  have e2 : dtM y m v d h i s u Y = m := by unfold dtM; rw [if_pos he]
  have e3 : dtD y m v d h i s u Y = if y = 0 then pickD Y m v d else d := by unfold dtD; rw [if_pos he]
  refine ⟨?_, e1, e2, hY.1, hY.2, n1, n2, n3, n4, n5, n6, n7, n8⟩
  rw [e1, e2, e3, Cal.okD_iff]
  by_cases hy : y = 0
  · rw [if_pos hy]
    have d5 : d ≤ 5 := by rcases day_iff.1 dy with q | q <;> omega
    have := pick_bd (Y := Y) (m := m) B.v.1 n8 d5
    omega
  · rw [if_neg hy]
    have hyY : y = Y := by
      apply Decidable.byContradiction; intro hc
      unfold noneS at hn
      simp [hy, hc] at hn
    rcases day_iff.1 dy with q | q
    · omega
    · rw [hyY] at q; omega
theorem mul_bd {n : Int} (h1 : -719162 ≤ n) (h2 : n ≤ 2932896) : IntKind.i64.wrap (n * 86400000) = n * 86400000 := by simp [IntKind.wrap, IntKind.bits, IntKind.signed]; omega
set_option maxRecDepth 100000 in
set_option maxHeartbeats 4000000 in
theorem local_no (y m v d h i s u Y : Int) (w : World) (hT : Tab w) (B : Bd y m v d h i s u) (he : dtE y m v d h i s u Y ≠ 0) :
    Calls Tryd.prog 70 #[stV y m v d h i s u, .int .i64 Y] w fun e w' => e = .returned (.tuple #[.int .i64 (lcV y m v d h i s u Y), .int .i64 (dtE y m v d h i s u Y)]) ∧ Below w.heap.size w w' := by
  have i0 := Civ.Inv.start hT
  have e0 : lcV y m v d h i s u Y = 0 := by unfold lcV; rw [if_neg he]
  have heb : (dtE y m v d h i s u Y != 0) = true := by simp [he]
  rw [e0]
  clear he e0
  generalize hg0 : dtE y m v d h i s u Y = E at *
  go_enter Tryd.func70, Tryd.ntmps70
  go_wp2_with fail
  refine (date_any _ _ _ _ _ _ _ _ _ _ (i0.alloc _).1 B).mono ?_; rintro e w1 ⟨rfl, hb1⟩
  rw [hg0]
  have i1 := (i0.alloc _).call hb1
  go_wp2_with fail
  go_ret2
  exact ⟨rfl, (i1.alloc _).2⟩
set_option maxRecDepth 100000 in
set_option maxHeartbeats 4000000 in
theorem local_yes (y m v d h i s u Y : Int) (w : World) (hT : Tab w) (B : Bd y m v d h i s u) (he : dtE y m v d h i s u Y = 0) :
    Calls Tryd.prog 70 #[stV y m v d h i s u, .int .i64 Y] w fun e w' => e = .returned (.tuple #[.int .i64 (lcV y m v d h i s u Y), .int .i64 (dtE y m v d h i s u Y)]) ∧ Below w.heap.size w w' := by
  have i0 := Civ.Inv.start hT
  obtain ⟨hok, x1, x2, x3, x4, x5, x6, x7, hh, hi, hs, hu, x8⟩ := dt_ok B he
  clear x1 x2 x3 x4 x5 x6 x7 x8
  obtain ⟨k1, k2, k3⟩ := Civ.num_on hok
  have e0 : lcV y m v d h i s u Y = Cal.num (dtY y m v d h i s u Y) (dtM y m v d h i s u Y) (dtD y m v d h i s u Y) * 86400000 + msT h i s u := by unfold lcV; rw [if_pos he]
  have hnr := Cal.num_range hok
  rw [e0, he]
  clear e0 hok
  have BB := B
  obtain ⟨_, _, _, _, ⟨b51, b52⟩, ⟨b61, b62⟩, ⟨b71, b72⟩, ⟨b81, b82⟩⟩ := BB
  generalize hy1 : dtY y m v d h i s u Y = y1 at *
  generalize hm1 : dtM y m v d h i s u Y = m1 at *
  generalize hd1 : dtD y m v d h i s u Y = d1 at *
  go_enter Tryd.func70, Tryd.ntmps70
  go_wp2_with fail
  refine (date_any _ _ _ _ _ _ _ _ _ _ (i0.alloc _).1 B).mono ?_; rintro e w1 ⟨rfl, hb1⟩
  rw [he, hy1, hm1, hd1]
  clear hy1 hm1 hd1 he
  obtain ⟨hc1, hf1⟩ := bcell hb1
  have i1 := (i0.alloc _).call hb1
  have hz1 : w.heap.size < w1.heap.size := by have := hb1.size; simp at this; omega
  have p4 : w1.cell? ⟨w.heap.size, 4, none⟩ = some (.int .u16 h) := by rw [hc1 _ _ (by simp)]; simp
  have p5 : w1.cell? ⟨w.heap.size, 5, none⟩ = some (.int .u16 i) := by rw [hc1 _ _ (by simp)]; simp
  have p6 : w1.cell? ⟨w.heap.size, 6, none⟩ = some (.int .u16 s) := by rw [hc1 _ _ (by simp)]; simp
  have p7 : w1.cell? ⟨w.heap.size, 7, none⟩ = some (.int .u16 u) := by rw [hc1 _ _ (by simp)]; simp
  clear hc1 hf1 hb1
  go_wp2_with fail
  refine (Civ.days_any _ _ _ _ (i1.alloc _).1).mono ?_; rintro e w2 ⟨rfl, hb2⟩
  rw [k1, k2]
  have i2 := (i1.alloc _).call hb2
  have hz2 : w.heap.size < w2.heap.size := by have := hb2.size; simp at this; omega
  have hk2 : ∀ o, w2.cell? ⟨w.heap.size, o, none⟩ = w1.cell? ⟨w.heap.size, o, none⟩ := fun o => by
    rw [hb2.cell (p := ⟨w.heap.size, o, none⟩) (by simp; omega), World.cell?_alloc_lt _ _ _ (by simpa using hz1)]
  have r4 := (hk2 4).trans p4
  have r5 := (hk2 5).trans p5
  have r6 := (hk2 6).trans p6
  have r7 := (hk2 7).trans p7
  clear hk2 hb2 p4 p5 p6 p7
  obtain ⟨n1, n2⟩ := hnr
  generalize hN : Cal.num y1 m1 d1 = N at *
  have HN := Lib.hid hN; clear hN
  go_wp2_with fail
  go_ret2
  refine ⟨?_, i2.2⟩
  show Ending.returned (.tuple #[.int .i64 (N * 86400000 + h * 3600000 + i * 60000 + s * 1000 + u), .int .i64 0]) = _
  unfold msT
  rw [HN.out, show N * 86400000 + h * 3600000 + i * 60000 + s * 1000 + u = N * 86400000 + (h * 3600000 + i * 60000 + s * 1000 + u) by omega]
theorem local_any (y m v d h i s u Y : Int) (w : World) (hT : Tab w) (B : Bd y m v d h i s u) :
    Calls Tryd.prog 70 #[stV y m v d h i s u, .int .i64 Y] w fun e w' => e = .returned (.tuple #[.int .i64 (lcV y m v d h i s u Y), .int .i64 (dtE y m v d h i s u Y)]) ∧ Below w.heap.size w w' := by
  by_cases he : dtE y m v d h i s u Y = 0
  · exact local_yes y m v d h i s u Y w hT B he
  · exact local_no y m v d h i s u Y w hT B he
end Go.Proofs.YtgdgkgeoigljcaaDoor.Stp
