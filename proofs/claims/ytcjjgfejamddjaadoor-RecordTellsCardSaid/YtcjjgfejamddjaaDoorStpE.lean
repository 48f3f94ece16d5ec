/-
  STAMPS: stamp.Exact, walked: the stamp with a Year that is at a time.
-/
import Derived.Test.YtcjjgfejamddjaaDoorStpL
import Derived.Test.YtcjjgfejamddjaaDoorWords
namespace Go.Proofs.YtcjjgfejamddjaaDoor.Stp
open Go.ChangeShapes Go.WideShapes Go.ChangeAt Go.RowKit
open Go.Proofs.YtcjjgfejamddjaaDoor
open Go.Proofs.YtcjjgfejamddjaaDoor.Civ (Tab bcell ret_bool ret_int ret_two Inv dateE)
set_option linter.unusedVariables false
/-- the day of a time, and the time of the day -/
def xD (ms : Int) : Int := ms / 86400000
def xT (ms : Int) : Int := ms % 86400000
def xOk (ms : Int) : Bool := decide (Cal.ofE (xD ms) = 0 ∧ 1601 ≤ Cal.ofYV (xD ms) ∧ Cal.ofYV (xD ms) ≤ 9999)
theorem tdiv_pos {ms : Int} (h : 0 ≤ ms) : ms.tdiv 86400000 = xD ms ∧ ms.tmod 86400000 = xT ms := by
  unfold xD xT; exact ⟨Int.tdiv_eq_ediv_of_nonneg h, Int.tmod_eq_emod_of_nonneg h⟩
theorem tdiv_neg {ms : Int} (h : ms < 0) : (ms.tmod 86400000 < 0 ∧ ms.tdiv 86400000 - 1 = xD ms ∧ ms.tmod 86400000 + 86400000 = xT ms) ∨ (ms.tmod 86400000 = 0 ∧ ms.tdiv 86400000 = xD ms ∧ xT ms = 0) := by
  obtain ⟨k, rfl⟩ : ∃ k : Int, ms = -k := ⟨-ms, by omega⟩
  have h1 : (-k).tdiv 86400000 = -(k / 86400000) := by rw [Int.neg_tdiv, Int.tdiv_eq_ediv_of_nonneg (by omega)]
  have h2 : (-k).tmod 86400000 = -(k % 86400000) := by rw [Int.neg_tmod, Int.tmod_eq_emod_of_nonneg (by omega)]
  rw [h1, h2]
  unfold xD xT
  omega
theorem xT_bd (ms : Int) : 0 ≤ xT ms ∧ xT ms < 86400000 := by unfold xT; omega
abbrev xSt (ms : Int) : Value := stV (Cal.ofYV (xD ms)) (Cal.ofMV (xD ms)) (Cal.wday (xD ms)) (Cal.ofDV (xD ms)) (xT ms / 3600000) (xT ms / 60000 % 60) (xT ms / 1000 % 60) (xT ms % 1000)
/-- what the machine reckons of a time -/
theorem split3 (ms : Int) : (¬ ms.tmod 86400000 < 0 ∧ ms.tdiv 86400000 = xD ms ∧ ms.tmod 86400000 = xT ms) ∨ (ms.tmod 86400000 < 0 ∧ ms.tdiv 86400000 - 1 = xD ms ∧ ms.tmod 86400000 + 86400000 = xT ms) := by
  have hb := xT_bd ms
  by_cases h : 0 ≤ ms
  · obtain ⟨a, b⟩ := tdiv_pos h
    left; exact ⟨by omega, a, b⟩
  · rcases tdiv_neg (show ms < 0 by omega) with q | ⟨q1, q2, q3⟩
    · right; exact q
    · left; exact ⟨by omega, q2, by omega⟩
set_option maxRecDepth 100000 in
set_option maxHeartbeats 8000000 in
theorem exact_no (ms : Int) (w : World) (hT : Tab w) (hr : -9223372036854775808 ≤ ms ∧ ms ≤ 9223372036854775807) (hx : xOk ms = false) :
    Calls Tryd.prog 22 #[.int .i64 ms] w fun e w' => e = .returned (.tuple #[stV 0 0 0 0 0 0 0 0, .int .i64 1]) ∧ Below w.heap.size w w' := by
  have i0 := Civ.Inv.start hT
  have hdb : -106751991168 ≤ xD ms ∧ xD ms ≤ 106751991167 := by unfold xD; omega
  have hx' : ¬ Cal.ofE (xD ms) = 0 ∨ (Cal.ofE (xD ms) = 0 ∧ (Cal.ofYV (xD ms) < 1601 ∨ (1601 ≤ Cal.ofYV (xD ms) ∧ 9999 < Cal.ofYV (xD ms)))) := by
    unfold xOk at hx
    have hx2 : ¬ (Cal.ofE (xD ms) = 0 ∧ 1601 ≤ Cal.ofYV (xD ms) ∧ Cal.ofYV (xD ms) ≤ 9999) := by simpa using hx
    omega
  clear hx
  obtain ⟨hr1, hr2⟩ := hr
  have htb := xT_bd ms
  obtain ⟨d1, d2⟩ := hdb
  obtain ⟨t1, t2⟩ := htb
  generalize hDD : xD ms = D at *
  generalize hTT : xT ms = T at *
  have hs := split3 ms
  rw [hDD, hTT] at hs
  generalize hq : ms.tdiv 86400000 = q at *
  generalize hrr : ms.tmod 86400000 = r at *
  clear hDD hTT
  rcases hs with ⟨s1, rfl, rfl⟩ | ⟨s1, s2, s3⟩
  · go_enter Tryd.func22, Tryd.ntmps22
    go_wp2_with fail
    refine (Civ.of_any _ _).mono ?_; rintro e w1 ⟨rfl, hb1⟩
    generalize Cal.ofYV q = Y at *
    generalize Cal.ofMV q = M at *
    generalize Cal.ofDV q = DD at *
    generalize Cal.ofE q = E at *
    obtain ⟨hc1, hf1⟩ := bcell hb1
    have i1 := (i0.alloc _).call hb1
    have hz1 : w.heap.size < w1.heap.size := by have := hb1.size; simp at this; omega
    have hx1 : Wd.Blk w1 w.heap.size 41 #[.int .u16 0, .int .u16 0, .int .u16 0, .int .u16 0, .int .u16 0, .int .u16 0, .int .u16 0, .int .u16 0] := (Wd.Blk.new w _ _).below hb1 (by simp)
    have qs : ∀ o, w1.cell? ⟨w.heap.size, o, none⟩ = (w.alloc (.cells #[.int .u16 0, .int .u16 0, .int .u16 0, .int .u16 0, .int .u16 0, .int .u16 0, .int .u16 0, .int .u16 0] 41)).cell? ⟨w.heap.size, o, none⟩ := fun o => hc1 _ _ (by simp)
    have q0 := qs 0
    have q1 := qs 1
    have q2 := qs 2
    have q3 := qs 3
    have q4 := qs 4
    have q5 := qs 5
    have q6 := qs 6
    have q7 := qs 7
    simp at q0 q1 q2 q3 q4 q5 q6 q7
    have f0 := hx1.frozen 0
    have f1 := hx1.frozen 1
    have f2 := hx1.frozen 2
    have f3 := hx1.frozen 3
    have f4 := hx1.frozen 4
    have f5 := hx1.frozen 5
    have f6 := hx1.frozen 6
    have f7 := hx1.frozen 7
    clear qs hc1 hf1 hb1
    rcases hx' with h1 | ⟨h1, h2 | ⟨h2, h3⟩⟩
    all_goals
      try (have h1b : (E != 0) = true := by simpa using h1)
      go_wp2_with fail
      have hF := (((((((((hx1.set_ 0 (.int .u16 (0))).set_ 1 (.int .u16 (0))).set_ 2 (.int .u16 (0))).set_ 3 (.int .u16 (0))).set_ 4 (.int .u16 (0))).set_ 5 (.int .u16 (0))).set_ 6 (.int .u16 (0))).set_ 7 (.int .u16 (0))).alloc (.cells #[.int .i64 Y, .int .i64 M, .int .i64 DD] 27))
      have hBel := (((((((((i1.2.setCell (p := ⟨w.heap.size, 0, none⟩) (Nat.le_refl _) (.int .u16 (0))).setCell (p := ⟨w.heap.size, 1, none⟩) (Nat.le_refl _) (.int .u16 (0))).setCell (p := ⟨w.heap.size, 2, none⟩) (Nat.le_refl _) (.int .u16 (0))).setCell (p := ⟨w.heap.size, 3, none⟩) (Nat.le_refl _) (.int .u16 (0))).setCell (p := ⟨w.heap.size, 4, none⟩) (Nat.le_refl _) (.int .u16 (0))).setCell (p := ⟨w.heap.size, 5, none⟩) (Nat.le_refl _) (.int .u16 (0))).setCell (p := ⟨w.heap.size, 6, none⟩) (Nat.le_refl _) (.int .u16 (0))).setCell (p := ⟨w.heap.size, 7, none⟩) (Nat.le_refl _) (.int .u16 (0))).alloc (by simp; omega) (.cells #[.int .i64 Y, .int .i64 M, .int .i64 DD] 27))
      generalize (((((((((w1.setCell ⟨w.heap.size, 0, none⟩ (.int .u16 (0))).setCell ⟨w.heap.size, 1, none⟩ (.int .u16 (0))).setCell ⟨w.heap.size, 2, none⟩ (.int .u16 (0))).setCell ⟨w.heap.size, 3, none⟩ (.int .u16 (0))).setCell ⟨w.heap.size, 4, none⟩ (.int .u16 (0))).setCell ⟨w.heap.size, 5, none⟩ (.int .u16 (0))).setCell ⟨w.heap.size, 6, none⟩ (.int .u16 (0))).setCell ⟨w.heap.size, 7, none⟩ (.int .u16 (0))).alloc (.cells #[.int .i64 Y, .int .i64 M, .int .i64 DD] 27)) = W8 at hF hBel ⊢
      simp at hF
      have z0 := hF.cell 0
      have z1 := hF.cell 1
      have z2 := hF.cell 2
      have z3 := hF.cell 3
      have z4 := hF.cell 4
      have z5 := hF.cell 5
      have z6 := hF.cell 6
      have z7 := hF.cell 7
      simp at z0 z1 z2 z3 z4 z5 z6 z7
      exact bodyPost_ret (v := .tuple #[stV (0) (0) (0) (0) (0) (0) (0) (0), .int .i64 1]) (by simp [results, Tryd.results22, go_sem, z0, z1, z2, z3, z4, z5, z6, z7]) rfl ⟨rfl, hBel⟩
  · obtain rfl : D = q - 1 := by omega
    obtain rfl : T = r + 86400000 := by omega
    go_enter Tryd.func22, Tryd.ntmps22
    go_wp2_with fail
    refine (Civ.of_any _ _).mono ?_; rintro e w1 ⟨rfl, hb1⟩
    generalize Cal.ofYV (q - 1) = Y at *
    generalize Cal.ofMV (q - 1) = M at *
    generalize Cal.ofDV (q - 1) = DD at *
    generalize Cal.ofE (q - 1) = E at *
    obtain ⟨hc1, hf1⟩ := bcell hb1
    have i1 := (i0.alloc _).call hb1
    have hz1 : w.heap.size < w1.heap.size := by have := hb1.size; simp at this; omega
    have hx1 : Wd.Blk w1 w.heap.size 41 #[.int .u16 0, .int .u16 0, .int .u16 0, .int .u16 0, .int .u16 0, .int .u16 0, .int .u16 0, .int .u16 0] := (Wd.Blk.new w _ _).below hb1 (by simp)
    have qs : ∀ o, w1.cell? ⟨w.heap.size, o, none⟩ = (w.alloc (.cells #[.int .u16 0, .int .u16 0, .int .u16 0, .int .u16 0, .int .u16 0, .int .u16 0, .int .u16 0, .int .u16 0] 41)).cell? ⟨w.heap.size, o, none⟩ := fun o => hc1 _ _ (by simp)
    have q0 := qs 0
    have q1 := qs 1
    have q2 := qs 2
    have q3 := qs 3
    have q4 := qs 4
    have q5 := qs 5
    have q6 := qs 6
    have q7 := qs 7
    simp at q0 q1 q2 q3 q4 q5 q6 q7
    have f0 := hx1.frozen 0
    have f1 := hx1.frozen 1
    have f2 := hx1.frozen 2
    have f3 := hx1.frozen 3
    have f4 := hx1.frozen 4
    have f5 := hx1.frozen 5
    have f6 := hx1.frozen 6
    have f7 := hx1.frozen 7
    clear qs hc1 hf1 hb1
    rcases hx' with h1 | ⟨h1, h2 | ⟨h2, h3⟩⟩
    all_goals
      try (have h1b : (E != 0) = true := by simpa using h1)
      go_wp2_with fail
      have hF := (((((((((hx1.set_ 0 (.int .u16 (0))).set_ 1 (.int .u16 (0))).set_ 2 (.int .u16 (0))).set_ 3 (.int .u16 (0))).set_ 4 (.int .u16 (0))).set_ 5 (.int .u16 (0))).set_ 6 (.int .u16 (0))).set_ 7 (.int .u16 (0))).alloc (.cells #[.int .i64 Y, .int .i64 M, .int .i64 DD] 27))
      have hBel := (((((((((i1.2.setCell (p := ⟨w.heap.size, 0, none⟩) (Nat.le_refl _) (.int .u16 (0))).setCell (p := ⟨w.heap.size, 1, none⟩) (Nat.le_refl _) (.int .u16 (0))).setCell (p := ⟨w.heap.size, 2, none⟩) (Nat.le_refl _) (.int .u16 (0))).setCell (p := ⟨w.heap.size, 3, none⟩) (Nat.le_refl _) (.int .u16 (0))).setCell (p := ⟨w.heap.size, 4, none⟩) (Nat.le_refl _) (.int .u16 (0))).setCell (p := ⟨w.heap.size, 5, none⟩) (Nat.le_refl _) (.int .u16 (0))).setCell (p := ⟨w.heap.size, 6, none⟩) (Nat.le_refl _) (.int .u16 (0))).setCell (p := ⟨w.heap.size, 7, none⟩) (Nat.le_refl _) (.int .u16 (0))).alloc (by simp; omega) (.cells #[.int .i64 Y, .int .i64 M, .int .i64 DD] 27))
      generalize (((((((((w1.setCell ⟨w.heap.size, 0, none⟩ (.int .u16 (0))).setCell ⟨w.heap.size, 1, none⟩ (.int .u16 (0))).setCell ⟨w.heap.size, 2, none⟩ (.int .u16 (0))).setCell ⟨w.heap.size, 3, none⟩ (.int .u16 (0))).setCell ⟨w.heap.size, 4, none⟩ (.int .u16 (0))).setCell ⟨w.heap.size, 5, none⟩ (.int .u16 (0))).setCell ⟨w.heap.size, 6, none⟩ (.int .u16 (0))).setCell ⟨w.heap.size, 7, none⟩ (.int .u16 (0))).alloc (.cells #[.int .i64 Y, .int .i64 M, .int .i64 DD] 27)) = W8 at hF hBel ⊢
      simp at hF
      have z0 := hF.cell 0
      have z1 := hF.cell 1
      have z2 := hF.cell 2
      have z3 := hF.cell 3
      have z4 := hF.cell 4
      have z5 := hF.cell 5
      have z6 := hF.cell 6
      have z7 := hF.cell 7
      simp at z0 z1 z2 z3 z4 z5 z6 z7
      exact bodyPost_ret (v := .tuple #[stV (0) (0) (0) (0) (0) (0) (0) (0), .int .i64 1]) (by simp [results, Tryd.results22, go_sem, z0, z1, z2, z3, z4, z5, z6, z7]) rfl ⟨rfl, hBel⟩
theorem of_bd {n : Int} (h : Cal.ofE n = 0) : 1 ≤ Cal.ofMV n ∧ Cal.ofMV n ≤ 12 ∧ 1 ≤ Cal.ofDV n ∧ Cal.ofDV n ≤ 31 := by
  have hk : Cal.okN n = true := by
    apply Decidable.byContradiction; intro hc
    unfold Cal.ofE at h; rw [if_neg hc] at h; cases h
  obtain ⟨a, b⟩ := (Cal.okN_iff n).1 hk
  have hd := Cal.day_ok n a b
  have e1 : Cal.ofMV n = Cal.dayM n := by unfold Cal.ofMV; rw [if_pos hk]
  have e2 : Cal.ofDV n = Cal.dayD n := by unfold Cal.ofDV; rw [if_pos hk]
  have := (Cal.okD_iff _ _ _).1 hd
  have lb := Cal.mlen_bd (Cal.dayY n) (Cal.dayM n)
  rw [e1, e2]; omega
set_option maxRecDepth 100000 in
set_option maxHeartbeats 8000000 in
theorem exact_yes (ms : Int) (w : World) (hT : Tab w) (hr : -9223372036854775808 ≤ ms ∧ ms ≤ 9223372036854775807) (hx : xOk ms = true) :
    Calls Tryd.prog 22 #[.int .i64 ms] w fun e w' => e = .returned (.tuple #[xSt ms, .int .i64 0]) ∧ Below w.heap.size w w' := by
  have i0 := Civ.Inv.start hT
  have hdb : -106751991168 ≤ xD ms ∧ xD ms ≤ 106751991167 := by unfold xD; omega
  have hx' : Cal.ofE (xD ms) = 0 ∧ 1601 ≤ Cal.ofYV (xD ms) ∧ Cal.ofYV (xD ms) ≤ 9999 := by unfold xOk at hx; exact of_decide_eq_true hx
  obtain ⟨h1, h2, h3⟩ := hx'
  clear hx
  have hmd := of_bd h1
  have hwb := Civ.wday_bd (xD ms)
  obtain ⟨m1, m2, m3, m4⟩ := hmd
  obtain ⟨wb1, wb2⟩ := hwb
  unfold xSt
  obtain ⟨hr1, hr2⟩ := hr
  have htb := xT_bd ms
  obtain ⟨d1, d2⟩ := hdb
  obtain ⟨t1, t2⟩ := htb
  generalize hDD : xD ms = D at *
  generalize hTT : xT ms = T at *
  have hs := split3 ms
  rw [hDD, hTT] at hs
  generalize hq : ms.tdiv 86400000 = q at *
  generalize hrr : ms.tmod 86400000 = r at *
  clear hDD hTT
  rcases hs with ⟨s1, rfl, rfl⟩ | ⟨s1, s2, s3⟩
  · go_enter Tryd.func22, Tryd.ntmps22
    go_wp2_with fail
    refine (Civ.of_any _ _).mono ?_; rintro e w1 ⟨rfl, hb1⟩
    generalize hYe : Cal.ofYV q = Y at *
    generalize hMe : Cal.ofMV q = M at *
    generalize hDe : Cal.ofDV q = DD at *
    generalize hEe : Cal.ofE q = E at *
    have HY := Lib.hid hYe; have HM := Lib.hid hMe; have HDD := Lib.hid hDe
    clear hYe hMe hDe hEe
    obtain ⟨hc1, hf1⟩ := bcell hb1
    have i1 := (i0.alloc _).call hb1
    have hz1 : w.heap.size < w1.heap.size := by have := hb1.size; simp at this; omega
    have hx1 : Wd.Blk w1 w.heap.size 41 #[.int .u16 0, .int .u16 0, .int .u16 0, .int .u16 0, .int .u16 0, .int .u16 0, .int .u16 0, .int .u16 0] := (Wd.Blk.new w _ _).below hb1 (by simp)
    have qs : ∀ o, w1.cell? ⟨w.heap.size, o, none⟩ = (w.alloc (.cells #[.int .u16 0, .int .u16 0, .int .u16 0, .int .u16 0, .int .u16 0, .int .u16 0, .int .u16 0, .int .u16 0] 41)).cell? ⟨w.heap.size, o, none⟩ := fun o => hc1 _ _ (by simp)
    have q0 := qs 0
    have q1 := qs 1
    have q2 := qs 2
    have q3 := qs 3
    have q4 := qs 4
    have q5 := qs 5
    have q6 := qs 6
    have q7 := qs 7
    simp at q0 q1 q2 q3 q4 q5 q6 q7
    have f0 := hx1.frozen 0
    have f1 := hx1.frozen 1
    have f2 := hx1.frozen 2
    have f3 := hx1.frozen 3
    have f4 := hx1.frozen 4
    have f5 := hx1.frozen 5
    have f6 := hx1.frozen 6
    have f7 := hx1.frozen 7
    clear qs hc1 hf1 hb1
    go_wp2_with fail
    have hD := Wd.Blk.new w1 27 #[.int .i64 Y, .int .i64 M, .int .i64 DD]
    have hx2 := hx1.alloc (.cells #[.int .i64 Y, .int .i64 M, .int .i64 DD] 27)
    have i2 := i1.alloc (.cells #[.int .i64 Y, .int .i64 M, .int .i64 DD] 27)
    have hz2 : w.heap.size < (w1.alloc (.cells #[.int .i64 Y, .int .i64 M, .int .i64 DD] 27)).heap.size := by simp; omega
    generalize w1.alloc (.cells #[.int .i64 Y, .int .i64 M, .int .i64 DD] 27) = W2 at *
    clear f0 f1 f2 f3 f4 f5 f6 f7 q0 q1 q2 q3 q4 q5 q6 q7
    have y0 := hD.cell 0
    have y1 := hD.cell 1
    have y2 := hD.cell 2
    have yl := hD.lt
    have q0 := hx2.cell 0
    have f0 := hx2.frozen 0
    have q1 := hx2.cell 1
    have f1 := hx2.frozen 1
    have q2 := hx2.cell 2
    have f2 := hx2.frozen 2
    have q3 := hx2.cell 3
    have f3 := hx2.frozen 3
    have q4 := hx2.cell 4
    have f4 := hx2.frozen 4
    have q5 := hx2.cell 5
    have f5 := hx2.frozen 5
    have q6 := hx2.cell 6
    have f6 := hx2.frozen 6
    have q7 := hx2.cell 7
    have f7 := hx2.frozen 7
    simp at y0 y1 y2 q0 q1 q2 q3 q4 q5 q6 q7
    have a0 : IntKind.u16.wrap Y = Y := by simp [IntKind.wrap, IntKind.bits, IntKind.signed]; omega
    have a1 : IntKind.u16.wrap M = M := by simp [IntKind.wrap, IntKind.bits, IntKind.signed]; omega
    have a3 : IntKind.u16.wrap DD = DD := by simp [IntKind.wrap, IntKind.bits, IntKind.signed]; omega
    have a2 : IntKind.u16.wrap (Cal.wday q) = Cal.wday q := by simp [IntKind.wrap, IntKind.bits, IntKind.signed]; omega
    have b0 : (r).tdiv 3600000 = r / 3600000 := Int.tdiv_eq_ediv_of_nonneg (by omega)
    have b1 : (r).tdiv 60000 = r / 60000 := Int.tdiv_eq_ediv_of_nonneg (by omega)
    have b2 : (r).tdiv 1000 = r / 1000 := Int.tdiv_eq_ediv_of_nonneg (by omega)
    have b3 : (r).tmod 1000 = r % 1000 := Int.tmod_eq_emod_of_nonneg (by omega)
    have b4 : (r / 60000).tmod 60 = r / 60000 % 60 := Int.tmod_eq_emod_of_nonneg (by omega)
    have b5 : (r / 1000).tmod 60 = r / 1000 % 60 := Int.tmod_eq_emod_of_nonneg (by omega)
    have g0 : IntKind.u16.wrap (r / 3600000) = r / 3600000 := by simp [IntKind.wrap, IntKind.bits, IntKind.signed]; omega
    have g1 : IntKind.u16.wrap (r / 60000 % 60) = r / 60000 % 60 := by simp [IntKind.wrap, IntKind.bits, IntKind.signed]; omega
    have g2 : IntKind.u16.wrap (r / 1000 % 60) = r / 1000 % 60 := by simp [IntKind.wrap, IntKind.bits, IntKind.signed]; omega
    have g3 : IntKind.u16.wrap (r % 1000) = r % 1000 := by simp [IntKind.wrap, IntKind.bits, IntKind.signed]; omega
    have n0 : IntKind.i64.wrap (r / 3600000) = r / 3600000 := by simp [IntKind.wrap, IntKind.bits, IntKind.signed]; omega
    have n1 : IntKind.i64.wrap (r / 60000) = r / 60000 := by simp [IntKind.wrap, IntKind.bits, IntKind.signed]; omega
    have n2 : IntKind.i64.wrap (r / 1000) = r / 1000 := by simp [IntKind.wrap, IntKind.bits, IntKind.signed]; omega
    go_still_tail 27, (by kernel_rfl)
    repeat (first | still_call ((Civ.wd_any _ _).mono fun _ _ q => ⟨q.1, q.2.symm⟩) | still_step)
    refine wpStill_nil ?_
    change wpList _ _ _ _ _ W2.drew
    go_wp2_with fail
    have hF := (Wd.Blk.drew ((((((((hx2.set_ 0 (.int .u16 (Y))).set_ 1 (.int .u16 (M))).set_ 2 (.int .u16 (Cal.wday q))).set_ 3 (.int .u16 (DD))).set_ 4 (.int .u16 (r / 3600000))).set_ 5 (.int .u16 (r / 60000 % 60))).set_ 6 (.int .u16 (r / 1000 % 60))).set_ 7 (.int .u16 (r % 1000))))
    have hBel := (((((((((i2.2.setCell (p := ⟨w.heap.size, 0, none⟩) (Nat.le_refl _) (.int .u16 (Y))).setCell (p := ⟨w.heap.size, 1, none⟩) (Nat.le_refl _) (.int .u16 (M))).setCell (p := ⟨w.heap.size, 2, none⟩) (Nat.le_refl _) (.int .u16 (Cal.wday q))).setCell (p := ⟨w.heap.size, 3, none⟩) (Nat.le_refl _) (.int .u16 (DD))).setCell (p := ⟨w.heap.size, 4, none⟩) (Nat.le_refl _) (.int .u16 (r / 3600000))).setCell (p := ⟨w.heap.size, 5, none⟩) (Nat.le_refl _) (.int .u16 (r / 60000 % 60))).setCell (p := ⟨w.heap.size, 6, none⟩) (Nat.le_refl _) (.int .u16 (r / 1000 % 60))).setCell (p := ⟨w.heap.size, 7, none⟩) (Nat.le_refl _) (.int .u16 (r % 1000))).drew)
    generalize (((((((((W2.setCell ⟨w.heap.size, 0, none⟩ (.int .u16 (Y))).setCell ⟨w.heap.size, 1, none⟩ (.int .u16 (M))).setCell ⟨w.heap.size, 2, none⟩ (.int .u16 (Cal.wday q))).setCell ⟨w.heap.size, 3, none⟩ (.int .u16 (DD))).setCell ⟨w.heap.size, 4, none⟩ (.int .u16 (r / 3600000))).setCell ⟨w.heap.size, 5, none⟩ (.int .u16 (r / 60000 % 60))).setCell ⟨w.heap.size, 6, none⟩ (.int .u16 (r / 1000 % 60))).setCell ⟨w.heap.size, 7, none⟩ (.int .u16 (r % 1000))).drew) = W8 at hF hBel ⊢
    simp at hF
    have z0 := hF.cell 0
    have z1 := hF.cell 1
    have z2 := hF.cell 2
    have z3 := hF.cell 3
    have z4 := hF.cell 4
    have z5 := hF.cell 5
    have z6 := hF.cell 6
    have z7 := hF.cell 7
    simp at z0 z1 z2 z3 z4 z5 z6 z7
    exact bodyPost_ret (v := .tuple #[stV (Y) (M) (Cal.wday q) (DD) (r / 3600000) (r / 60000 % 60) (r / 1000 % 60) (r % 1000), .int .i64 0]) (by simp [results, Tryd.results22, go_sem, z0, z1, z2, z3, z4, z5, z6, z7]) rfl ⟨by rw [HY.out, HM.out, HDD.out], hBel⟩
  · obtain rfl : D = q - 1 := by omega
    obtain rfl : T = r + 86400000 := by omega
    go_enter Tryd.func22, Tryd.ntmps22
    go_wp2_with fail
    refine (Civ.of_any _ _).mono ?_; rintro e w1 ⟨rfl, hb1⟩
    generalize hYe : Cal.ofYV (q - 1) = Y at *
    generalize hMe : Cal.ofMV (q - 1) = M at *
    generalize hDe : Cal.ofDV (q - 1) = DD at *
    generalize hEe : Cal.ofE (q - 1) = E at *
    have HY := Lib.hid hYe; have HM := Lib.hid hMe; have HDD := Lib.hid hDe
    clear hYe hMe hDe hEe
    obtain ⟨hc1, hf1⟩ := bcell hb1
    have i1 := (i0.alloc _).call hb1
    have hz1 : w.heap.size < w1.heap.size := by have := hb1.size; simp at this; omega
    have hx1 : Wd.Blk w1 w.heap.size 41 #[.int .u16 0, .int .u16 0, .int .u16 0, .int .u16 0, .int .u16 0, .int .u16 0, .int .u16 0, .int .u16 0] := (Wd.Blk.new w _ _).below hb1 (by simp)
    have qs : ∀ o, w1.cell? ⟨w.heap.size, o, none⟩ = (w.alloc (.cells #[.int .u16 0, .int .u16 0, .int .u16 0, .int .u16 0, .int .u16 0, .int .u16 0, .int .u16 0, .int .u16 0] 41)).cell? ⟨w.heap.size, o, none⟩ := fun o => hc1 _ _ (by simp)
    have q0 := qs 0
    have q1 := qs 1
    have q2 := qs 2
    have q3 := qs 3
    have q4 := qs 4
    have q5 := qs 5
    have q6 := qs 6
    have q7 := qs 7
    simp at q0 q1 q2 q3 q4 q5 q6 q7
    have f0 := hx1.frozen 0
    have f1 := hx1.frozen 1
    have f2 := hx1.frozen 2
    have f3 := hx1.frozen 3
    have f4 := hx1.frozen 4
    have f5 := hx1.frozen 5
    have f6 := hx1.frozen 6
    have f7 := hx1.frozen 7
    clear qs hc1 hf1 hb1
    go_wp2_with fail
    have hD := Wd.Blk.new w1 27 #[.int .i64 Y, .int .i64 M, .int .i64 DD]
    have hx2 := hx1.alloc (.cells #[.int .i64 Y, .int .i64 M, .int .i64 DD] 27)
    have i2 := i1.alloc (.cells #[.int .i64 Y, .int .i64 M, .int .i64 DD] 27)
    have hz2 : w.heap.size < (w1.alloc (.cells #[.int .i64 Y, .int .i64 M, .int .i64 DD] 27)).heap.size := by simp; omega
    generalize w1.alloc (.cells #[.int .i64 Y, .int .i64 M, .int .i64 DD] 27) = W2 at *
    clear f0 f1 f2 f3 f4 f5 f6 f7 q0 q1 q2 q3 q4 q5 q6 q7
    have y0 := hD.cell 0
    have y1 := hD.cell 1
    have y2 := hD.cell 2
    have yl := hD.lt
    have q0 := hx2.cell 0
    have f0 := hx2.frozen 0
    have q1 := hx2.cell 1
    have f1 := hx2.frozen 1
    have q2 := hx2.cell 2
    have f2 := hx2.frozen 2
    have q3 := hx2.cell 3
    have f3 := hx2.frozen 3
    have q4 := hx2.cell 4
    have f4 := hx2.frozen 4
    have q5 := hx2.cell 5
    have f5 := hx2.frozen 5
    have q6 := hx2.cell 6
    have f6 := hx2.frozen 6
    have q7 := hx2.cell 7
    have f7 := hx2.frozen 7
    simp at y0 y1 y2 q0 q1 q2 q3 q4 q5 q6 q7
    have a0 : IntKind.u16.wrap Y = Y := by simp [IntKind.wrap, IntKind.bits, IntKind.signed]; omega
    have a1 : IntKind.u16.wrap M = M := by simp [IntKind.wrap, IntKind.bits, IntKind.signed]; omega
    have a3 : IntKind.u16.wrap DD = DD := by simp [IntKind.wrap, IntKind.bits, IntKind.signed]; omega
    have a2 : IntKind.u16.wrap (Cal.wday (q - 1)) = Cal.wday (q - 1) := by simp [IntKind.wrap, IntKind.bits, IntKind.signed]; omega
    have b0 : ((r + 86400000)).tdiv 3600000 = (r + 86400000) / 3600000 := Int.tdiv_eq_ediv_of_nonneg (by omega)
    have b1 : ((r + 86400000)).tdiv 60000 = (r + 86400000) / 60000 := Int.tdiv_eq_ediv_of_nonneg (by omega)
    have b2 : ((r + 86400000)).tdiv 1000 = (r + 86400000) / 1000 := Int.tdiv_eq_ediv_of_nonneg (by omega)
    have b3 : ((r + 86400000)).tmod 1000 = (r + 86400000) % 1000 := Int.tmod_eq_emod_of_nonneg (by omega)
    have b4 : ((r + 86400000) / 60000).tmod 60 = (r + 86400000) / 60000 % 60 := Int.tmod_eq_emod_of_nonneg (by omega)
    have b5 : ((r + 86400000) / 1000).tmod 60 = (r + 86400000) / 1000 % 60 := Int.tmod_eq_emod_of_nonneg (by omega)
    have g0 : IntKind.u16.wrap ((r + 86400000) / 3600000) = (r + 86400000) / 3600000 := by simp [IntKind.wrap, IntKind.bits, IntKind.signed]; omega
    have g1 : IntKind.u16.wrap ((r + 86400000) / 60000 % 60) = (r + 86400000) / 60000 % 60 := by simp [IntKind.wrap, IntKind.bits, IntKind.signed]; omega
    have g2 : IntKind.u16.wrap ((r + 86400000) / 1000 % 60) = (r + 86400000) / 1000 % 60 := by simp [IntKind.wrap, IntKind.bits, IntKind.signed]; omega
    have g3 : IntKind.u16.wrap ((r + 86400000) % 1000) = (r + 86400000) % 1000 := by simp [IntKind.wrap, IntKind.bits, IntKind.signed]; omega
    have n0 : IntKind.i64.wrap ((r + 86400000) / 3600000) = (r + 86400000) / 3600000 := by simp [IntKind.wrap, IntKind.bits, IntKind.signed]; omega
    have n1 : IntKind.i64.wrap ((r + 86400000) / 60000) = (r + 86400000) / 60000 := by simp [IntKind.wrap, IntKind.bits, IntKind.signed]; omega
    have n2 : IntKind.i64.wrap ((r + 86400000) / 1000) = (r + 86400000) / 1000 := by simp [IntKind.wrap, IntKind.bits, IntKind.signed]; omega
    go_still_tail 27, (by kernel_rfl)
    repeat (first | still_call ((Civ.wd_any _ _).mono fun _ _ q => ⟨q.1, q.2.symm⟩) | still_step)
    refine wpStill_nil ?_
    change wpList _ _ _ _ _ W2.drew
    go_wp2_with fail
    have hF := (Wd.Blk.drew ((((((((hx2.set_ 0 (.int .u16 (Y))).set_ 1 (.int .u16 (M))).set_ 2 (.int .u16 (Cal.wday (q - 1)))).set_ 3 (.int .u16 (DD))).set_ 4 (.int .u16 ((r + 86400000) / 3600000))).set_ 5 (.int .u16 ((r + 86400000) / 60000 % 60))).set_ 6 (.int .u16 ((r + 86400000) / 1000 % 60))).set_ 7 (.int .u16 ((r + 86400000) % 1000))))
    have hBel := (((((((((i2.2.setCell (p := ⟨w.heap.size, 0, none⟩) (Nat.le_refl _) (.int .u16 (Y))).setCell (p := ⟨w.heap.size, 1, none⟩) (Nat.le_refl _) (.int .u16 (M))).setCell (p := ⟨w.heap.size, 2, none⟩) (Nat.le_refl _) (.int .u16 (Cal.wday (q - 1)))).setCell (p := ⟨w.heap.size, 3, none⟩) (Nat.le_refl _) (.int .u16 (DD))).setCell (p := ⟨w.heap.size, 4, none⟩) (Nat.le_refl _) (.int .u16 ((r + 86400000) / 3600000))).setCell (p := ⟨w.heap.size, 5, none⟩) (Nat.le_refl _) (.int .u16 ((r + 86400000) / 60000 % 60))).setCell (p := ⟨w.heap.size, 6, none⟩) (Nat.le_refl _) (.int .u16 ((r + 86400000) / 1000 % 60))).setCell (p := ⟨w.heap.size, 7, none⟩) (Nat.le_refl _) (.int .u16 ((r + 86400000) % 1000))).drew)
    generalize (((((((((W2.setCell ⟨w.heap.size, 0, none⟩ (.int .u16 (Y))).setCell ⟨w.heap.size, 1, none⟩ (.int .u16 (M))).setCell ⟨w.heap.size, 2, none⟩ (.int .u16 (Cal.wday (q - 1)))).setCell ⟨w.heap.size, 3, none⟩ (.int .u16 (DD))).setCell ⟨w.heap.size, 4, none⟩ (.int .u16 ((r + 86400000) / 3600000))).setCell ⟨w.heap.size, 5, none⟩ (.int .u16 ((r + 86400000) / 60000 % 60))).setCell ⟨w.heap.size, 6, none⟩ (.int .u16 ((r + 86400000) / 1000 % 60))).setCell ⟨w.heap.size, 7, none⟩ (.int .u16 ((r + 86400000) % 1000))).drew) = W8 at hF hBel ⊢
    simp at hF
    have z0 := hF.cell 0
    have z1 := hF.cell 1
    have z2 := hF.cell 2
    have z3 := hF.cell 3
    have z4 := hF.cell 4
    have z5 := hF.cell 5
    have z6 := hF.cell 6
    have z7 := hF.cell 7
    simp at z0 z1 z2 z3 z4 z5 z6 z7
    exact bodyPost_ret (v := .tuple #[stV (Y) (M) (Cal.wday (q - 1)) (DD) ((r + 86400000) / 3600000) ((r + 86400000) / 60000 % 60) ((r + 86400000) / 1000 % 60) ((r + 86400000) % 1000), .int .i64 0]) (by simp [results, Tryd.results22, go_sem, z0, z1, z2, z3, z4, z5, z6, z7]) rfl ⟨by rw [HY.out, HM.out, HDD.out], hBel⟩
theorem exact_any (ms : Int) (w : World) (hT : Tab w) (hr : -9223372036854775808 ≤ ms ∧ ms ≤ 9223372036854775807) :
    Calls Tryd.prog 22 #[.int .i64 ms] w fun e w' => e = .returned (.tuple #[(if xOk ms = true then xSt ms else stV 0 0 0 0 0 0 0 0), .int .i64 (if xOk ms = true then 0 else 1)]) ∧ Below w.heap.size w w' := by
  cases hx : xOk ms with
  | true => exact exact_yes ms w hT hr hx
  | false => exact exact_no ms w hT hr hx
end Go.Proofs.YtcjjgfejamddjaaDoor.Stp
