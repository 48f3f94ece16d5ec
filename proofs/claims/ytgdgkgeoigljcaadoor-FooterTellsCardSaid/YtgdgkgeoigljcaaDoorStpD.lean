/-
  STAMPS: stamp.Date, walked: all ways but that of a rule of a month.
-/
import Derived.Test.YtgdgkgeoigljcaaDoorStp
import Derived.StillTailTactics
namespace Go.Proofs.YtgdgkgeoigljcaaDoor.Stp
open Go.ChangeShapes Go.WideShapes Go.ChangeAt Go.RowKit
open Go.Proofs.YtgdgkgeoigljcaaDoor
open Go.Proofs.YtgdgkgeoigljcaaDoor.Civ (Tab bcell ret_bool ret_int ret_two Inv dateE)
set_option linter.unusedVariables false
/-- the day of a stamp of Year 0, in a year -/
def dayK (Y m v d : Int) : Int := 1 + (v + 7 - Cal.wday (Cal.num Y m 1)) % 7 + 7 * (d - 1)
def pickD (Y m v d : Int) : Int := if Cal.mlen Y m < dayK Y m v d then dayK Y m v d - 7 else dayK Y m v d
def noneS (y m v d h i s u Y : Int) : Bool := zeroS y m v d h i s u || decide (y ≠ 0 ∧ y ≠ Y)
def dtE (y m v d h i s u Y : Int) : Int :=
  if okS y m v d h i s u = false then 2 else if ¬ (1601 ≤ Y ∧ Y ≤ 9999) then 1 else if noneS y m v d h i s u Y = true then 3 else 0
def dtY (y m v d h i s u Y : Int) : Int := if dtE y m v d h i s u Y = 0 then Y else 0
def dtM (y m v d h i s u Y : Int) : Int := if dtE y m v d h i s u Y = 0 then m else 0
def dtD (y m v d h i s u Y : Int) : Int := if dtE y m v d h i s u Y = 0 then (if y = 0 then pickD Y m v d else d) else 0
theorem dt_no {y m v d h i s u Y e : Int} (he : dtE y m v d h i s u Y = e) (h0 : e ≠ 0) :
    dateE 0 0 0 e = dateE (dtY y m v d h i s u Y) (dtM y m v d h i s u Y) (dtD y m v d h i s u Y) (dtE y m v d h i s u Y) := by
  unfold dtY dtM dtD
  rw [he, if_neg h0, if_neg h0, if_neg h0]
theorem dt_yes {y m v d h i s u Y : Int} (he : dtE y m v d h i s u Y = 0) :
    dateE Y m (if y = 0 then pickD Y m v d else d) 0 = dateE (dtY y m v d h i s u Y) (dtM y m v d h i s u Y) (dtD y m v d h i s u Y) (dtE y m v d h i s u Y) := by
  unfold dtY dtM dtD
  rw [he, if_pos rfl, if_pos rfl, if_pos rfl]
set_option maxRecDepth 100000 in
set_option maxHeartbeats 4000000 in
theorem date_bad (y m v d h i s u Y : Int) (w : World) (hT : Tab w) (B : Bd y m v d h i s u) (hk : okS y m v d h i s u = false) :
    Calls Tryd.prog 76 #[stV y m v d h i s u, .int .i64 Y] w fun e w' => e = .returned (dateE (dtY y m v d h i s u Y) (dtM y m v d h i s u Y) (dtD y m v d h i s u Y) (dtE y m v d h i s u Y)) ∧ Below w.heap.size w w' := by
  have i0 := Civ.Inv.start hT
  have E : dtE y m v d h i s u Y = 2 := by unfold dtE; rw [if_pos hk]
  rw [← dt_no E (by decide)]
  have C : chkS y m v d h i s u = 2 := by unfold chkS; rw [hk]; rfl
  clear hk E
  go_enter Tryd.func76, Tryd.ntmps76
  go_wp2_with fail
  refine (chk_any _ _ _ _ _ _ _ _ _ ((i0.alloc _).alloc _).1 B).mono ?_; rintro e w1 ⟨rfl, hb1⟩
  rw [C]
  obtain ⟨hc1, hf1⟩ := bcell hb1
  have i1 := ((i0.alloc _).alloc _).call hb1
  have hz1 : w.heap.size < w1.heap.size := by have := hb1.size; simp at this; omega
  have hz1' : w.heap.size + 1 < w1.heap.size := by have := hb1.size; simp at this; omega
  have q0 : w1.cell? ⟨w.heap.size + 1, 0, none⟩ = some (.int .i64 0) := by rw [hc1 _ _ (by simp)]; simp
  have q1 : w1.cell? ⟨w.heap.size + 1, 1, none⟩ = some (.int .i64 0) := by rw [hc1 _ _ (by simp)]; simp
  have q2 : w1.cell? ⟨w.heap.size + 1, 2, none⟩ = some (.int .i64 0) := by rw [hc1 _ _ (by simp)]; simp
  go_wp2_with fail
  exact bodyPost_ret (v := dateE 0 0 0 2) (by simp [results, Tryd.results76, go_sem, q0, q1, q2]) rfl ⟨rfl, ((i1.2.setCell (Nat.le_succ _) _).setCell (Nat.le_succ _) _).setCell (Nat.le_succ _) _⟩
set_option maxRecDepth 100000 in
set_option maxHeartbeats 4000000 in
theorem date_range (y m v d h i s u Y : Int) (w : World) (hT : Tab w) (B : Bd y m v d h i s u) (hk : okS y m v d h i s u = true) (hY : ¬ (1601 ≤ Y ∧ Y ≤ 9999)) :
    Calls Tryd.prog 76 #[stV y m v d h i s u, .int .i64 Y] w fun e w' => e = .returned (dateE (dtY y m v d h i s u Y) (dtM y m v d h i s u Y) (dtD y m v d h i s u Y) (dtE y m v d h i s u Y)) ∧ Below w.heap.size w w' := by
  have i0 := Civ.Inv.start hT
  have E : dtE y m v d h i s u Y = 1 := by unfold dtE; rw [if_neg (by rw [hk]; decide), if_pos hY]
  rw [← dt_no E (by decide)]
  have C : chkS y m v d h i s u = 0 := by unfold chkS; rw [hk]; rfl
  clear hk E
  have hY' : Y < 1601 ∨ (1601 ≤ Y ∧ 9999 < Y) := by omega
  clear hY
  rcases hY' with r1 | ⟨r1, r2⟩
  all_goals
    go_enter Tryd.func76, Tryd.ntmps76
    go_wp2_with fail
    refine (chk_any _ _ _ _ _ _ _ _ _ ((i0.alloc _).alloc _).1 B).mono ?_; rintro e w1 ⟨rfl, hb1⟩
    rw [C]
    obtain ⟨hc1, hf1⟩ := bcell hb1
    have i1 := ((i0.alloc _).alloc _).call hb1
    have hz1 : w.heap.size < w1.heap.size := by have := hb1.size; simp at this; omega
    have hz1' : w.heap.size + 1 < w1.heap.size := by have := hb1.size; simp at this; omega
    have q0 : w1.cell? ⟨w.heap.size + 1, 0, none⟩ = some (.int .i64 0) := by rw [hc1 _ _ (by simp)]; simp
    have q1 : w1.cell? ⟨w.heap.size + 1, 1, none⟩ = some (.int .i64 0) := by rw [hc1 _ _ (by simp)]; simp
    have q2 : w1.cell? ⟨w.heap.size + 1, 2, none⟩ = some (.int .i64 0) := by rw [hc1 _ _ (by simp)]; simp
    go_wp2_with fail
    exact bodyPost_ret (v := dateE 0 0 0 1) (by simp [results, Tryd.results76, go_sem, q0, q1, q2]) rfl ⟨rfl, ((i1.2.setCell (Nat.le_succ _) _).setCell (Nat.le_succ _) _).setCell (Nat.le_succ _) _⟩
theorem not_zero {y m v d h i s u : Int} (hk : okS y m v d h i s u = true) (hz : zeroS y m v d h i s u = false) : numS m v d h i s u = true ∧ dayS y m d = true := by
  unfold okS at hk
  rw [hz] at hk
  simpa using hk
set_option maxRecDepth 100000 in
set_option maxHeartbeats 4000000 in
theorem date_none (y m v d h i s u Y : Int) (w : World) (hT : Tab w) (B : Bd y m v d h i s u) (hk : okS y m v d h i s u = true) (hY : 1601 ≤ Y ∧ Y ≤ 9999) (hn : noneS y m v d h i s u Y = true) :
    Calls Tryd.prog 76 #[stV y m v d h i s u, .int .i64 Y] w fun e w' => e = .returned (dateE (dtY y m v d h i s u Y) (dtM y m v d h i s u Y) (dtD y m v d h i s u Y) (dtE y m v d h i s u Y)) ∧ Below w.heap.size w w' := by
  have i0 := Civ.Inv.start hT
  have E : dtE y m v d h i s u Y = 3 := by unfold dtE; rw [if_neg (by rw [hk]; decide), if_neg (by omega), if_pos hn]
  rw [← dt_no E (by decide)]
  have C : chkS y m v d h i s u = 0 := by unfold chkS; rw [hk]; rfl
  clear E
  obtain ⟨r1, r2⟩ := hY
  cases hz : zeroS y m v d h i s u
  · obtain ⟨n, _⟩ := not_zero hk hz
    obtain ⟨n1, n2, n3, n4, n5, n6, n7, n8⟩ := num_iff.1 n
    have hyy : y ≠ 0 ∧ y ≠ Y := by unfold noneS at hn; rw [hz] at hn; simpa using hn
    obtain ⟨y1, y2⟩ := hyy
    have hm0 : ¬ m = 0 := by omega
    have yb1 : (y != 0) = true := by simpa using y1
    have yb2 : (y != Y) = true := by simpa using y2
    clear hk hn hz
    have BB := B
    obtain ⟨⟨b11, b12⟩, _, _, _, _, _, _, _⟩ := BB
    go_enter Tryd.func76, Tryd.ntmps76
    go_wp2_with fail
    refine (chk_any _ _ _ _ _ _ _ _ _ ((i0.alloc _).alloc _).1 B).mono ?_; rintro e w1 ⟨rfl, hb1⟩
    rw [C]
    obtain ⟨hc1, hf1⟩ := bcell hb1
    have i1 := ((i0.alloc _).alloc _).call hb1
    have hz1 : w.heap.size < w1.heap.size := by have := hb1.size; simp at this; omega
    have hz1' : w.heap.size + 1 < w1.heap.size := by have := hb1.size; simp at this; omega
    have q0 : w1.cell? ⟨w.heap.size + 1, 0, none⟩ = some (.int .i64 0) := by rw [hc1 _ _ (by simp)]; simp
    have q1 : w1.cell? ⟨w.heap.size + 1, 1, none⟩ = some (.int .i64 0) := by rw [hc1 _ _ (by simp)]; simp
    have q2 : w1.cell? ⟨w.heap.size + 1, 2, none⟩ = some (.int .i64 0) := by rw [hc1 _ _ (by simp)]; simp
    go_wp2_with fail
    exact bodyPost_ret (v := dateE 0 0 0 3) (by simp [results, Tryd.results76, go_sem, q0, q1, q2]) rfl ⟨rfl, ((i1.2.setCell (Nat.le_succ _) _).setCell (Nat.le_succ _) _).setCell (Nat.le_succ _) _⟩
  · obtain ⟨rfl, rfl, rfl, rfl, rfl, rfl, rfl, rfl⟩ := zero_iff.1 hz
    clear hk hn hz
    go_enter Tryd.func76, Tryd.ntmps76
    go_wp2_with fail
    refine (chk_any _ _ _ _ _ _ _ _ _ ((i0.alloc _).alloc _).1 B).mono ?_; rintro e w1 ⟨rfl, hb1⟩
    rw [C]
    obtain ⟨hc1, hf1⟩ := bcell hb1
    have i1 := ((i0.alloc _).alloc _).call hb1
    have hz1 : w.heap.size < w1.heap.size := by have := hb1.size; simp at this; omega
    have hz1' : w.heap.size + 1 < w1.heap.size := by have := hb1.size; simp at this; omega
    have q0 : w1.cell? ⟨w.heap.size + 1, 0, none⟩ = some (.int .i64 0) := by rw [hc1 _ _ (by simp)]; simp
    have q1 : w1.cell? ⟨w.heap.size + 1, 1, none⟩ = some (.int .i64 0) := by rw [hc1 _ _ (by simp)]; simp
    have q2 : w1.cell? ⟨w.heap.size + 1, 2, none⟩ = some (.int .i64 0) := by rw [hc1 _ _ (by simp)]; simp
    go_wp2_with fail
    exact bodyPost_ret (v := dateE 0 0 0 3) (by simp [results, Tryd.results76, go_sem, q0, q1, q2]) rfl ⟨rfl, ((i1.2.setCell (Nat.le_succ _) _).setCell (Nat.le_succ _) _).setCell (Nat.le_succ _) _⟩
set_option maxRecDepth 100000 in
set_option maxHeartbeats 4000000 in
theorem date_exact (y m v d h i s u Y : Int) (w : World) (hT : Tab w) (B : Bd y m v d h i s u) (hk : okS y m v d h i s u = true) (hY : 1601 ≤ Y ∧ Y ≤ 9999) (hy : y = Y) :
    Calls Tryd.prog 76 #[stV y m v d h i s u, .int .i64 Y] w fun e w' => e = .returned (dateE (dtY y m v d h i s u Y) (dtM y m v d h i s u Y) (dtD y m v d h i s u Y) (dtE y m v d h i s u Y)) ∧ Below w.heap.size w w' := by
  have i0 := Civ.Inv.start hT
  have hz : zeroS y m v d h i s u = false := by
    cases hh : zeroS y m v d h i s u
    · rfl
    · have := zero_iff.1 hh; omega
  have E : dtE y m v d h i s u Y = 0 := by unfold dtE noneS; rw [if_neg (by rw [hk]; decide), if_neg (by omega), hz]; simp [hy]
  rw [← dt_yes E, if_neg (by omega)]
  have C : chkS y m v d h i s u = 0 := by unfold chkS; rw [hk]; rfl
  obtain ⟨n, _⟩ := not_zero hk hz
  obtain ⟨n1, n2, n3, n4, n5, n6, n7, n8⟩ := num_iff.1 n
  have hm0 : ¬ m = 0 := by omega
  clear hk hz E n
  obtain ⟨r1, r2⟩ := hY
  have hy0 : ¬ y = 0 := by omega
  have BB := B
  obtain ⟨⟨b11, b12⟩, ⟨b21, b22⟩, _, ⟨b41, b42⟩, _, _, _, _⟩ := BB
  subst hy
  go_enter Tryd.func76, Tryd.ntmps76
  go_wp2_with fail
  refine (chk_any _ _ _ _ _ _ _ _ _ ((i0.alloc _).alloc _).1 B).mono ?_; rintro e w1 ⟨rfl, hb1⟩
  rw [C]
  obtain ⟨hc1, hf1⟩ := bcell hb1
  have i1 := ((i0.alloc _).alloc _).call hb1
  have hz1 : w.heap.size < w1.heap.size := by have := hb1.size; simp at this; omega
  have hz1' : w.heap.size + 1 < w1.heap.size := by have := hb1.size; simp at this; omega
  have q0 : w1.cell? ⟨w.heap.size + 1, 0, none⟩ = some (.int .i64 0) := by rw [hc1 _ _ (by simp)]; simp
  have q1 : w1.cell? ⟨w.heap.size + 1, 1, none⟩ = some (.int .i64 0) := by rw [hc1 _ _ (by simp)]; simp
  have q2 : w1.cell? ⟨w.heap.size + 1, 2, none⟩ = some (.int .i64 0) := by rw [hc1 _ _ (by simp)]; simp
  go_wp2_with fail
  refine bodyPost_ret (v := dateE y m d 0) (by simp [results, Tryd.results76, go_sem, q0, q1, q2, hz1', World.cell?_alloc_lt]) rfl ⟨rfl, ?_⟩
  have hB := Below.setCell (p := ⟨w.heap.size + 1, 2, none⟩) (Below.setCell (p := ⟨w.heap.size + 1, 1, none⟩) (Below.setCell (p := ⟨w.heap.size + 1, 0, none⟩) i1.2 (Nat.le_succ _) (.int .i64 y)) (Nat.le_succ _) (.int .i64 m)) (Nat.le_succ _) (.int .i64 d)
  exact hB.alloc hB.size _
end Go.Proofs.YtgdgkgeoigljcaaDoor.Stp
