/-
  STAMPS: stamp.Date, walked: a rule of a month.
-/
import Derived.Test.YtgdgkgeoigljcaaDoorStpD
namespace Go.Proofs.YtgdgkgeoigljcaaDoor.Stp
open Go.ChangeShapes Go.WideShapes Go.ChangeAt Go.RowKit
open Go.Proofs.YtgdgkgeoigljcaaDoor
open Go.Proofs.YtgdgkgeoigljcaaDoor.Civ (Tab bcell ret_bool ret_int ret_two Inv dateE)
set_option linter.unusedVariables false
theorem set_twice (w : World) (b o : Nat) (u v : Value) : (w.setCell ⟨b, o, none⟩ u).setCell ⟨b, o, none⟩ v = w.setCell ⟨b, o, none⟩ v := by
  unfold World.setCell
  simp only []
  congr 1
  apply Array.ext
  · simp
  · intro i h1 h2
    simp only [Array.getElem_modify]
    split
    · cases hh : w.heap[i]'(by simpa using h2) <;> simp
    · rfl
theorem date_rule_ok {Y m : Int} (hY : 1601 ≤ Y ∧ Y ≤ 9999) (h1 : 1 ≤ m) (h2 : m ≤ 12) :
    Cal.numV Y m 1 = Cal.num Y m 1 ∧ Cal.chkE Y m 1 = 0 ∧ Cal.lenV Y m = Cal.mlen Y m ∧ Cal.lenE Y m = 0 := by
  have hD : Cal.okD Y m 1 = true := (Cal.okD_iff _ _ _).2 ⟨by omega, by omega, h1, h2, by omega, by have := Cal.mlen_bd Y m; omega⟩
  obtain ⟨a, b, _⟩ := Civ.num_on hD
  obtain ⟨c, d⟩ := Civ.len_of ((Cal.okYM_iff Y m).2 ⟨by omega, by omega, h1, h2⟩)
  exact ⟨a, b, d, c⟩
set_option maxRecDepth 100000 in
set_option maxHeartbeats 8000000 in
theorem date_rule (m v d h i s u Y : Int) (w : World) (hT : Tab w) (B : Bd 0 m v d h i s u) (hk : okS 0 m v d h i s u = true) (hY : 1601 ≤ Y ∧ Y ≤ 9999) (hz : zeroS 0 m v d h i s u = false) :
    Calls Tryd.prog 76 #[stV 0 m v d h i s u, .int .i64 Y] w fun e w' => e = .returned (dateE (dtY 0 m v d h i s u Y) (dtM 0 m v d h i s u Y) (dtD 0 m v d h i s u Y) (dtE 0 m v d h i s u Y)) ∧ Below w.heap.size w w' := by
  have i0 := Civ.Inv.start hT
  have E : dtE 0 m v d h i s u Y = 0 := by unfold dtE noneS; rw [if_neg (by rw [hk]; decide), if_neg (by omega), hz]; simp
  rw [← dt_yes E, if_pos rfl]
  have C : chkS 0 m v d h i s u = 0 := by unfold chkS; rw [hk]; rfl
  obtain ⟨n, dy⟩ := not_zero hk hz
  obtain ⟨n1, n2, n3, n4, n5, n6, n7, n8⟩ := num_iff.1 n
  have d5 : d ≤ 5 := by rcases day_iff.1 dy with q | q <;> omega
  have hm0 : ¬ m = 0 := by omega
  obtain ⟨k1, k2, k3, k4⟩ := date_rule_ok hY n1 n2
  have lb := Cal.mlen_bd Y m
  have wb := Civ.wday_bd (Cal.num Y m 1)
  obtain ⟨lb1, lb2⟩ := lb
  obtain ⟨wb1, wb2⟩ := wb
  clear hk hz E n dy
  obtain ⟨r1, r2⟩ := hY
  have BB := B
  obtain ⟨_, ⟨b21, b22⟩, ⟨b31, b32⟩, ⟨b41, b42⟩, _, _, _, _⟩ := BB
  go_enter Tryd.func76, Tryd.ntmps76
  go_wp2_with fail
  refine (chk_any _ _ _ _ _ _ _ _ _ ((i0.alloc _).alloc _).1 B).mono ?_; rintro e w1 ⟨rfl, hb1⟩
  rw [C]
  obtain ⟨hc1, hf1⟩ := bcell hb1
  have i1 := ((i0.alloc _).alloc _).call hb1
  have hz1 : w.heap.size < w1.heap.size := by have := hb1.size; simp at this; omega
  have hz1' : w.heap.size + 1 < w1.heap.size := by have := hb1.size; simp at this; omega
  go_wp2_with fail
  refine (Civ.days_any _ _ _ _ (i1.alloc _).1).mono ?_; rintro e w2 ⟨rfl, hb2⟩
  rw [k1, k2]
  obtain ⟨hc2, hf2⟩ := bcell hb2
  have i2 := (i1.alloc _).call hb2
  have hz2 : w.heap.size < w2.heap.size := by have := hb2.size; simp at this; omega
  have hz2' : w.heap.size + 1 < w2.heap.size := by have := hb2.size; simp at this; omega
  have hz2'' : w1.heap.size < w2.heap.size := by have := hb2.size; simp at this; omega
  go_wp2_with fail
  refine (Civ.len_any _ _ _ i2.1).mono ?_; rintro e w3 ⟨rfl, rfl⟩
  rw [k3, k4]
  have t0 : w2.cell? ⟨w1.heap.size, 0, none⟩ = some (.int .i64 Y) := by rw [hc2 _ _ (by simp)]; simp
  have t1 : w2.cell? ⟨w1.heap.size, 1, none⟩ = some (.int .i64 m) := by rw [hc2 _ _ (by simp)]; simp
  have t2 : w2.cell? ⟨w1.heap.size, 2, none⟩ = some (.int .i64 1) := by rw [hc2 _ _ (by simp)]; simp
  have q0 : w2.cell? ⟨w.heap.size + 1, 0, none⟩ = some (.int .i64 0) := by rw [hc2 _ _ (by simp; omega), World.cell?_alloc_lt _ _ _ (by simpa using hz1'), hc1 _ _ (by simp)]; simp
  have q1 : w2.cell? ⟨w.heap.size + 1, 1, none⟩ = some (.int .i64 0) := by rw [hc2 _ _ (by simp; omega), World.cell?_alloc_lt _ _ _ (by simpa using hz1'), hc1 _ _ (by simp)]; simp
  have q2 : w2.cell? ⟨w.heap.size + 1, 2, none⟩ = some (.int .i64 0) := by rw [hc2 _ _ (by simp; omega), World.cell?_alloc_lt _ _ _ (by simpa using hz1'), hc1 _ _ (by simp)]; simp
  have hss : ∀ v v', (w2.setCell ⟨w1.heap.size, 2, none⟩ v).setCell ⟨w1.heap.size, 2, none⟩ v' = w2.setCell ⟨w1.heap.size, 2, none⟩ v' := set_twice w2 w1.heap.size 2
  have ne1 : ¬ w1.heap.size = w.heap.size + 1 := by omega
  have ne2 : ¬ w.heap.size + 1 = w1.heap.size := by omega
  go_wp2_with fail
  go_still_tail 12, (by kernel_rfl)
  still_call ((Civ.wd_any _ _).mono fun _ _ q => ⟨q.1, q.2.symm⟩)
  repeat still_step
  refine wpStill_nil ?_
  change wpList _ _ _ _ _ w2.drew
  have i3 := i2.drew
  by_cases hK : Cal.mlen Y m < 1 + (v + 7 - Cal.wday (Cal.num Y m 1)) % 7 + 7 * (d - 1)
  · have hP : pickD Y m v d = 1 + (v + 7 - Cal.wday (Cal.num Y m 1)) % 7 + 7 * (d - 1) - 7 := by unfold pickD dayK; rw [if_pos hK]
    go_wp2_with fail
    exact bodyPost_ret (v := dateE Y m (pickD Y m v d) 0) (by simp [results, Tryd.results76, go_sem, q0, q1, q2, hP]) rfl ⟨by rw [hP], by
      repeat' (first | exact i2.2 | refine Below.setCell ?_ ?_ _ | refine Below.drew ?_)
      all_goals (first | exact Nat.le_succ _ | (show _ ≤ w1.heap.size; omega))⟩
  · have hP : pickD Y m v d = 1 + (v + 7 - Cal.wday (Cal.num Y m 1)) % 7 + 7 * (d - 1) := by unfold pickD dayK; rw [if_neg hK]
    go_wp2_with fail
    exact bodyPost_ret (v := dateE Y m (pickD Y m v d) 0) (by simp [results, Tryd.results76, go_sem, q0, q1, q2, hP]) rfl ⟨by rw [hP], by
      repeat' (first | exact i2.2 | refine Below.setCell ?_ ?_ _ | refine Below.drew ?_)
      all_goals (first | exact Nat.le_succ _ | (show _ ≤ w1.heap.size; omega))⟩
theorem date_any (y m v d h i s u Y : Int) (w : World) (hT : Tab w) (B : Bd y m v d h i s u) :
    Calls Tryd.prog 76 #[stV y m v d h i s u, .int .i64 Y] w fun e w' => e = .returned (dateE (dtY y m v d h i s u Y) (dtM y m v d h i s u Y) (dtD y m v d h i s u Y) (dtE y m v d h i s u Y)) ∧ Below w.heap.size w w' := by
  cases hk : okS y m v d h i s u with
  | false => exact date_bad y m v d h i s u Y w hT B hk
  | true =>
    by_cases hY : 1601 ≤ Y ∧ Y ≤ 9999
    · cases hn : noneS y m v d h i s u Y with
      | true => exact date_none y m v d h i s u Y w hT B hk hY hn
      | false =>
        have hz : zeroS y m v d h i s u = false := by
          cases hh : zeroS y m v d h i s u with
          | false => rfl
          | true => unfold noneS at hn; rw [hh] at hn; cases hn
        by_cases hy : y = 0
        · subst hy
          exact date_rule m v d h i s u Y w hT B hk hY hz
        · have hyY : y = Y := by
            apply Decidable.byContradiction; intro hc
            unfold noneS at hn
            simp [hy, hc] at hn
          exact date_exact y m v d h i s u Y w hT B hk hY hyY
    · exact date_range y m v d h i s u Y w hT B hk hY
end Go.Proofs.YtgdgkgeoigljcaaDoor.Stp
