/-
  THE REFERENCE, walked: when a stamp is in a year; when a clock turns; a record checked, its offsets; what holds in a year.
-/
import Derived.Test.YtefcjccapekjdaaDoorRfD
import Derived.Test.YtefcjccapekjdaaDoorStpL
import Derived.Test.YtefcjccapekjdaaDoorYrB
namespace Go.Proofs.YtefcjccapekjdaaDoor.Rf
open Go.ChangeShapes Go.WideShapes Go.ChangeAt Go.RowKit
open Go.Proofs.YtefcjccapekjdaaDoor
open Go.Proofs.YtefcjccapekjdaaDoor.Wd
open Go.Proofs.YtefcjccapekjdaaDoor.Rec
open Go.Proofs.YtefcjccapekjdaaDoor.Yr (leS lcS secV lc_bd ceil_hi ceil_lo twoV sumB offS_bd stO stA0 stateV trE trA trB atO atB results_se)
open Go.Proofs.YtefcjccapekjdaaDoor.Stp (stV Bd chkS zeroS okS numS dayS dtE dtY dtM dtD lcV msT dt_ok mul_bd)
open Go.Proofs.YtefcjccapekjdaaDoor.Civ (Tab Inv ret_int dateE dateV bcell ret_two)
set_option linter.unusedVariables false
set_option maxRecDepth 100000 in
set_option maxHeartbeats 4000000 in
theorem rlocal_no (y m v d h i s u Y : Int) (w : World) (hT : Tab w) (B : Bd y m v d h i s u) (he : dtE y m v d h i s u Y ≠ 0) :
    Calls Tryd.prog 112 #[stV y m v d h i s u, .int .i64 Y] w fun e w' => e = .returned (.tuple #[.int .i64 (lcV y m v d h i s u Y), .int .i64 (dtE y m v d h i s u Y)]) ∧ Below w.heap.size w w' := by
  have i0 := Civ.Inv.start hT
  have e0 : lcV y m v d h i s u Y = 0 := by unfold lcV; rw [if_neg he]
  have heb : (dtE y m v d h i s u Y != 0) = true := by simp [he]
  rw [e0]
  clear he e0
  generalize hg0 : dtE y m v d h i s u Y = E at *
  go_enter Tryd.func112, Tryd.ntmps112
  go_wp2_with fail
  refine (rdate_any _ _ _ _ _ _ _ _ _ _ B).mono ?_; rintro e w1 ⟨rfl, hb1⟩
  rw [hg0]
  have i1 := (i0.alloc _).call hb1
  go_wp2_with fail
  go_ret2
  exact ⟨rfl, (i1.alloc _).2⟩
set_option maxRecDepth 100000 in
set_option maxHeartbeats 4000000 in
theorem rlocal_yes (y m v d h i s u Y : Int) (w : World) (hT : Tab w) (B : Bd y m v d h i s u) (he : dtE y m v d h i s u Y = 0) :
    Calls Tryd.prog 112 #[stV y m v d h i s u, .int .i64 Y] w fun e w' => e = .returned (.tuple #[.int .i64 (lcV y m v d h i s u Y), .int .i64 (dtE y m v d h i s u Y)]) ∧ Below w.heap.size w w' := by
  have i0 := Civ.Inv.start hT
  obtain ⟨hok, x1, x2, x3, x4, x5, x6, x7, hh, hi, hs, hu, x8⟩ := dt_ok B he
  clear x1 x2 x3 x4 x5 x6 x7 x8
  obtain ⟨k1, k2, k3⟩ := Civ.num_on hok
  have e0 : lcV y m v d h i s u Y = Cal.num (dtY y m v d h i s u Y) (dtM y m v d h i s u Y) (dtD y m v d h i s u Y) * 86400000 + msT h i s u := by unfold lcV; rw [if_pos he]
  have hnr := Cal.num_range hok
  rw [e0, he]
  clear e0 hok
  have BB := B
  obtain ⟨_, _, _, _, ⟨b51, b52⟩, ⟨b61, b62⟩, ⟨b71, b72⟩, ⟨b81, b82⟩⟩ := BB
  generalize hy1 : dtY y m v d h i s u Y = y1 at *
  generalize hm1 : dtM y m v d h i s u Y = m1 at *
  generalize hd1 : dtD y m v d h i s u Y = d1 at *
  go_enter Tryd.func112, Tryd.ntmps112
  go_wp2_with fail
  refine (rdate_any _ _ _ _ _ _ _ _ _ _ B).mono ?_; rintro e w1 ⟨rfl, hb1⟩
  rw [he, hy1, hm1, hd1]
  clear hy1 hm1 hd1 he
  obtain ⟨hc1, hf1⟩ := Civ.bcell hb1
  have i1 := (i0.alloc _).call hb1
  have hz1 : w.heap.size < w1.heap.size := by have := hb1.size; simp at this; omega
  have p4 : w1.cell? ⟨w.heap.size, 4, none⟩ = some (.int .u16 h) := by rw [hc1 _ _ (by simp)]; simp
  have p5 : w1.cell? ⟨w.heap.size, 5, none⟩ = some (.int .u16 i) := by rw [hc1 _ _ (by simp)]; simp
  have p6 : w1.cell? ⟨w.heap.size, 6, none⟩ = some (.int .u16 s) := by rw [hc1 _ _ (by simp)]; simp
  have p7 : w1.cell? ⟨w.heap.size, 7, none⟩ = some (.int .u16 u) := by rw [hc1 _ _ (by simp)]; simp
  clear hc1 hf1 hb1
  go_wp2_with fail
  refine (Civ.rdays_any _ _ _ _).mono ?_; rintro e w2 ⟨rfl, hb2⟩
  rw [k1, k2]
  have i2 := (i1.alloc _).call hb2
  have hz2 : w.heap.size < w2.heap.size := by have := hb2.size; simp at this; omega
  have hk2 : ∀ o, w2.cell? ⟨w.heap.size, o, none⟩ = w1.cell? ⟨w.heap.size, o, none⟩ := fun o => by
    rw [hb2.cell (p := ⟨w.heap.size, o, none⟩) (by simp; omega), World.cell?_alloc_lt _ _ _ (by simpa using hz1)]
  have r4 := (hk2 4).trans p4
  have r5 := (hk2 5).trans p5
  have r6 := (hk2 6).trans p6
  have r7 := (hk2 7).trans p7
  clear hk2 hb2 p4 p5 p6 p7
  obtain ⟨n1, n2⟩ := hnr
  generalize hN : Cal.num y1 m1 d1 = N at *
  have HN := Lib.hid hN; clear hN
  go_wp2_with fail
  go_ret2
  refine ⟨?_, i2.2⟩
  show Ending.returned (.tuple #[.int .i64 (N * 86400000 + h * 3600000 + i * 60000 + s * 1000 + u), .int .i64 0]) = _
  unfold msT
  rw [HN.out, show N * 86400000 + h * 3600000 + i * 60000 + s * 1000 + u = N * 86400000 + (h * 3600000 + i * 60000 + s * 1000 + u) by omega]
theorem rlocal_any (y m v d h i s u Y : Int) (w : World) (hT : Tab w) (B : Bd y m v d h i s u) :
    Calls Tryd.prog 112 #[stV y m v d h i s u, .int .i64 Y] w fun e w' => e = .returned (.tuple #[.int .i64 (lcV y m v d h i s u Y), .int .i64 (dtE y m v d h i s u Y)]) ∧ Below w.heap.size w w' := by
  by_cases he : dtE y m v d h i s u Y = 0
  · exact rlocal_yes y m v d h i s u Y w hT B he
  · exact rlocal_no y m v d h i s u Y w hT B he
set_option maxRecDepth 20000 in
set_option maxHeartbeats 1600000 in
theorem roffs_any (b c d : Int) (p q : St) (w : World) (B : RBd b c d p q) :
    Calls Tryd.prog 17 #[rcV b c d p q] w fun e w' => e = .returned (.tuple #[.int .i64 (offS b c), .int .i64 (offS b d)]) ∧ Below w.heap.size w w' := by
  obtain ⟨⟨b1, b2⟩, ⟨c1, c2⟩, ⟨d1, d2⟩, _, _⟩ := B
  unfold offS
  go_enter Tryd.func17, Tryd.ntmps17
  go_wp2
  go_quiet (fail)
  go_wp2
  go_ret2
  exact ⟨rfl, bdrewN ((Below.refl _ _).alloc (Nat.le_refl _) _) _⟩
theorem rnear_any (z : Int) (w : World) :
    Calls Tryd.prog 84 #[.int .i64 z] w fun e w' => e = .returned (.bool (near z)) ∧ w' = w := by
  by_cases h1 : -86400 ≤ z
  · by_cases h2 : z ≤ 86400
    · have hv : near z = true := by unfold near; simp [h1, h2]
      rw [hv]; clear hv
      go_enter Tryd.func84, Tryd.ntmps84
      go_wp2
      go_ret
      exact ⟨rfl, rfl⟩
    · have hv : near z = false := by unfold near; simp [h2]
      rw [hv]; clear hv
      go_enter Tryd.func84, Tryd.ntmps84
      go_wp2
      go_ret
      exact ⟨rfl, rfl⟩
  · have hv : near z = false := by unfold near; simp [h1]
    rw [hv]; clear hv
    go_enter Tryd.func84, Tryd.ntmps84
    go_wp2
    go_ret
    exact ⟨rfl, rfl⟩
theorem rchk8 {x : St} {w : World} (B : x.Bd) : Calls Tryd.prog 85 #[.agg (sA x)] w fun e w' => e = .returned (.int .i64 x.chk) ∧ Below w.heap.size w w' :=
  rchkS_any _ _ _ _ _ _ _ _ _ B
end Go.Proofs.YtefcjccapekjdaaDoor.Rf
