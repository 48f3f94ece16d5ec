/-
  STAMPS: the plain law, and stamp.Check, walked.
-/
import Derived.Test.YtgdgkgeoigljcaaDoorCv
import Derived.Deep.QuietTactic
import Derived.BigQuiet
namespace Go.Proofs.YtgdgkgeoigljcaaDoor.Stp
open Go.ChangeShapes Go.WideShapes Go.ChangeAt Go.RowKit
open Go.Proofs.YtgdgkgeoigljcaaDoor
open Go.Proofs.YtgdgkgeoigljcaaDoor.Civ (Tab bcell ret_bool ret_int ret_two Inv)
set_option linter.unusedVariables false
abbrev stV (y m v d h i s u : Int) : Value := .agg #[.int .u16 y, .int .u16 m, .int .u16 v, .int .u16 d, .int .u16 h, .int .u16 i, .int .u16 s, .int .u16 u]
/-- all are 0 -/
def zeroS (y m v d h i s u : Int) : Bool := decide (y = 0 ∧ m = 0 ∧ v = 0 ∧ d = 0 ∧ h = 0 ∧ i = 0 ∧ s = 0 ∧ u = 0)
/-- the day may be -/
def dayS (y m d : Int) : Bool := decide ((y = 0 ∧ d ≤ 5) ∨ (1601 ≤ y ∧ y ≤ 9999 ∧ d ≤ Cal.mlen y m))
/-- the numbers may be -/
def numS (m v d h i s u : Int) : Bool := decide (1 ≤ m ∧ m ≤ 12 ∧ v ≤ 6 ∧ h ≤ 23 ∧ i ≤ 59 ∧ s ≤ 59 ∧ u ≤ 999 ∧ 1 ≤ d)
def okS (y m v d h i s u : Int) : Bool := zeroS y m v d h i s u || (numS m v d h i s u && dayS y m d)
def chkS (y m v d h i s u : Int) : Int := if okS y m v d h i s u = true then 0 else 2
structure Bd (y m v d h i s u : Int) : Prop where
  y : 0 ≤ y ∧ y ≤ 65535
  m : 0 ≤ m ∧ m ≤ 65535
  v : 0 ≤ v ∧ v ≤ 65535
  d : 0 ≤ d ∧ d ≤ 65535
  h : 0 ≤ h ∧ h ≤ 65535
  i : 0 ≤ i ∧ i ≤ 65535
  s : 0 ≤ s ∧ s ≤ 65535
  u : 0 ≤ u ∧ u ≤ 65535
theorem chk_zero : chkS 0 0 0 0 0 0 0 0 = 0 := by decide
theorem num_iff {m v d h i s u : Int} : numS m v d h i s u = true ↔ (1 ≤ m ∧ m ≤ 12 ∧ v ≤ 6 ∧ h ≤ 23 ∧ i ≤ 59 ∧ s ≤ 59 ∧ u ≤ 999 ∧ 1 ≤ d) := by unfold numS; exact decide_eq_true_iff
theorem day_iff {y m d : Int} : dayS y m d = true ↔ ((y = 0 ∧ d ≤ 5) ∨ (1601 ≤ y ∧ y ≤ 9999 ∧ d ≤ Cal.mlen y m)) := by unfold dayS; exact decide_eq_true_iff
theorem zero_iff {y m v d h i s u : Int} : zeroS y m v d h i s u = true ↔ (y = 0 ∧ m = 0 ∧ v = 0 ∧ d = 0 ∧ h = 0 ∧ i = 0 ∧ s = 0 ∧ u = 0) := by unfold zeroS; exact decide_eq_true_iff
theorem chk_of {y m v d h i s u : Int} (hz : zeroS y m v d h i s u = false) :
    (numS m v d h i s u = false → chkS y m v d h i s u = 2) ∧ (numS m v d h i s u = true → dayS y m d = false → chkS y m v d h i s u = 2) ∧ (numS m v d h i s u = true → dayS y m d = true → chkS y m v d h i s u = 0) := by
  unfold chkS okS
  rw [hz]
  refine ⟨fun h => ?_, fun h h' => ?_, fun h h' => ?_⟩ <;> simp [*]
/-- the comparing of a stamp with the empty one -/
theorem eql_zero {y m v d h i s u : Int} (hz : zeroS y m v d h i s u = false) : ((y == 0 && (m == 0 && (v == 0 && (d == 0 && (h == 0 && (i == 0 && (s == 0 && u == 0))))))) = false) := by
  unfold zeroS at hz
  simpa using hz
set_option maxRecDepth 100000 in
set_option maxHeartbeats 4000000 in
theorem chk_num (y m v d h i s u : Int) (w : World) (hT : Tab w) (B : Bd y m v d h i s u) (hz : zeroS y m v d h i s u = false) (hn : numS m v d h i s u = true) :
    Calls Tryd.prog 42 #[stV y m v d h i s u] w fun e w' => e = .returned (.int .i64 (chkS y m v d h i s u)) ∧ Below w.heap.size w w' := by
  have i0 := Civ.Inv.start hT
  obtain ⟨n1, n2, n3, n4, n5, n6, n7, n8⟩ := num_iff.1 hn
  have C := Lib.hid (chk_of hz)
  have H := Lib.hid hn
  clear hn
  obtain ⟨⟨b11, b12⟩, ⟨b21, b22⟩, ⟨b31, b32⟩, ⟨b41, b42⟩, ⟨b51, b52⟩, ⟨b61, b62⟩, ⟨b71, b72⟩, ⟨b81, b82⟩⟩ := B
  have hm0 : ¬ m = 0 := by omega
  clear hz
  by_cases hy : y = 0
  · subst hy
    by_cases hd : d ≤ 5
    · have E := Lib.hid (C.out.2.2 H.out (day_iff.2 (Or.inl ⟨rfl, hd⟩)))
      go_enter Tryd.func42, Tryd.ntmps42
      go_wp2_with fail
      go_ret
      exact ⟨ret_int E.out.symm, (i0.alloc _).2⟩
    · have E := Lib.hid (C.out.2.1 H.out (by
        cases hh : dayS 0 m d
        · rfl
        · have := day_iff.1 hh; omega))
      go_enter Tryd.func42, Tryd.ntmps42
      go_wp2_with fail
      go_ret
      exact ⟨ret_int E.out.symm, (i0.alloc _).2⟩
  · by_cases hr : 1601 ≤ y ∧ y ≤ 9999
    · obtain ⟨r1, r2⟩ := hr
      have ho : Cal.okYM y m = true := (Cal.okYM_iff y m).2 ⟨by omega, by omega, n1, n2⟩
      obtain ⟨l1, l2⟩ := Civ.len_of ho
      have lb := Cal.mlen_bd y m
      obtain ⟨lb1, lb2⟩ := lb
      clear ho
      by_cases hd : d ≤ Cal.mlen y m
      · have E := Lib.hid (C.out.2.2 H.out (day_iff.2 (Or.inr ⟨r1, r2, hd⟩)))
        go_enter Tryd.func42, Tryd.ntmps42
        go_wp2_with fail
        refine (Civ.len_any _ _ _ (i0.alloc _).1).mono ?_; rintro e w1 ⟨rfl, rfl⟩
        rw [l1, l2]
        go_wp2_with fail
        go_ret
        exact ⟨ret_int E.out.symm, (i0.alloc _).2⟩
      · have E := Lib.hid (C.out.2.1 H.out (by
          cases hh : dayS y m d
          · rfl
          · have := day_iff.1 hh; omega))
        go_enter Tryd.func42, Tryd.ntmps42
        go_wp2_with fail
        refine (Civ.len_any _ _ _ (i0.alloc _).1).mono ?_; rintro e w1 ⟨rfl, rfl⟩
        rw [l1, l2]
        go_wp2_with fail
        go_ret
        exact ⟨ret_int E.out.symm, (i0.alloc _).2⟩
    · have E := Lib.hid (C.out.2.1 H.out (by
        cases hh : dayS y m d
        · rfl
        · have := day_iff.1 hh; omega))
      have hr' : y < 1601 ∨ (1601 ≤ y ∧ 9999 < y) := by omega
      clear hr
      rcases hr' with r1 | ⟨r1, r2⟩
      all_goals
        go_enter Tryd.func42, Tryd.ntmps42
        go_wp2_with fail
        go_ret
        exact ⟨ret_int E.out.symm, (i0.alloc _).2⟩
set_option maxRecDepth 100000 in
set_option maxHeartbeats 4000000 in
theorem chk_bad (y m v d h i s u : Int) (w : World) (hT : Tab w) (B : Bd y m v d h i s u) (hz : zeroS y m v d h i s u = false) (hn : numS m v d h i s u = false) :
    Calls Tryd.prog 42 #[stV y m v d h i s u] w fun e w' => e = .returned (.int .i64 (chkS y m v d h i s u)) ∧ Below w.heap.size w w' := by
  have i0 := Civ.Inv.start hT
  have E := Lib.hid ((chk_of hz).1 hn)
  obtain ⟨⟨b11, b12⟩, ⟨b21, b22⟩, ⟨b31, b32⟩, ⟨b41, b42⟩, ⟨b51, b52⟩, ⟨b61, b62⟩, ⟨b71, b72⟩, ⟨b81, b82⟩⟩ := B
  have hbad : m < 1 ∨ (1 ≤ m ∧ 12 < m) ∨ (1 ≤ m ∧ m ≤ 12 ∧ 6 < v) ∨ (1 ≤ m ∧ m ≤ 12 ∧ v ≤ 6 ∧ 23 < h) ∨ (1 ≤ m ∧ m ≤ 12 ∧ v ≤ 6 ∧ h ≤ 23 ∧ 59 < i) ∨ (1 ≤ m ∧ m ≤ 12 ∧ v ≤ 6 ∧ h ≤ 23 ∧ i ≤ 59 ∧ 59 < s) ∨ (1 ≤ m ∧ m ≤ 12 ∧ v ≤ 6 ∧ h ≤ 23 ∧ i ≤ 59 ∧ s ≤ 59 ∧ 999 < u) ∨ (1 ≤ m ∧ m ≤ 12 ∧ v ≤ 6 ∧ h ≤ 23 ∧ i ≤ 59 ∧ s ≤ 59 ∧ u ≤ 999 ∧ d < 1) := by
    have hx : ¬ (1 ≤ m ∧ m ≤ 12 ∧ v ≤ 6 ∧ h ≤ 23 ∧ i ≤ 59 ∧ s ≤ 59 ∧ u ≤ 999 ∧ 1 ≤ d) := fun q => by rw [num_iff.2 q] at hn; cases hn
    omega
  have Z := eql_zero hz
  clear hn
  rcases hbad with a1 | ⟨a1, a2⟩ | ⟨a1, a2, a3⟩ | ⟨a1, a2, a3, a4⟩ | ⟨a1, a2, a3, a4, a5⟩ | ⟨a1, a2, a3, a4, a5, a6⟩ | ⟨a1, a2, a3, a4, a5, a6, a7⟩ | ⟨a1, a2, a3, a4, a5, a6, a7, a8⟩
  · obtain rfl : m = 0 := by omega
    have hzz : ¬ y = 0 ∨ ¬ v = 0 ∨ ¬ d = 0 ∨ ¬ h = 0 ∨ ¬ i = 0 ∨ ¬ s = 0 ∨ ¬ u = 0 := by
      have : ¬ (y = 0 ∧ (0 : Int) = 0 ∧ v = 0 ∧ d = 0 ∧ h = 0 ∧ i = 0 ∧ s = 0 ∧ u = 0) := fun q => by rw [zero_iff.2 q] at hz; cases hz
      omega
    clear hz Z
    rcases hzz with q | q | q | q | q | q | q
    all_goals
      go_enter Tryd.func42, Tryd.ntmps42
      go_wp2_with fail
      go_ret
      exact ⟨ret_int E.out.symm, (i0.alloc _).2⟩
  all_goals
    clear hz Z
    have hm0 : ¬ m = 0 := by omega
    go_enter Tryd.func42, Tryd.ntmps42
    go_wp2_with fail
    go_ret
    exact ⟨ret_int E.out.symm, (i0.alloc _).2⟩
set_option maxRecDepth 100000 in
set_option maxHeartbeats 4000000 in
theorem chk_any (y m v d h i s u : Int) (w : World) (hT : Tab w) (B : Bd y m v d h i s u) :
    Calls Tryd.prog 42 #[stV y m v d h i s u] w fun e w' => e = .returned (.int .i64 (chkS y m v d h i s u)) ∧ Below w.heap.size w w' := by
  cases hz : zeroS y m v d h i s u
  · cases hn : numS m v d h i s u
    · exact chk_bad y m v d h i s u w hT B hz hn
    · exact chk_num y m v d h i s u w hT B hz hn
  · obtain ⟨rfl, rfl, rfl, rfl, rfl, rfl, rfl, rfl⟩ := zero_iff.1 hz
    have i0 := Civ.Inv.start hT
    go_enter Tryd.func42, Tryd.ntmps42
    go_wp2_with fail
    go_ret
    exact ⟨ret_int chk_zero.symm, (i0.alloc _).2⟩
end Go.Proofs.YtgdgkgeoigljcaaDoor.Stp
