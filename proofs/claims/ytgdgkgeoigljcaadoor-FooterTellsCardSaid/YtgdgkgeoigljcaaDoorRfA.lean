/-
  THE REFERENCE, walked: the clock (Split, Year); a stamp checked.
-/
import Derived.Test.YtgdgkgeoigljcaaDoorCvR
import Derived.Test.YtgdgkgeoigljcaaDoorQe
namespace Go.Proofs.YtgdgkgeoigljcaaDoor.Rf
open Go.ChangeShapes Go.WideShapes Go.ChangeAt Go.RowKit
open Go.Proofs.YtgdgkgeoigljcaaDoor
open Go.Proofs.YtgdgkgeoigljcaaDoor.Wd
open Go.Proofs.YtgdgkgeoigljcaaDoor.Rec
open Go.Proofs.YtgdgkgeoigljcaaDoor.Stp (stV Bd chkS zeroS okS numS dayS num_iff day_iff zero_iff chk_of eql_zero chk_zero)
open Go.Proofs.YtgdgkgeoigljcaaDoor.Civ (Tab Inv ret_int)
set_option maxRecDepth 100000 in
set_option maxHeartbeats 4000000 in
theorem rchk_num (y m v d h i s u : Int) (w : World) (B : Bd y m v d h i s u) (hz : zeroS y m v d h i s u = false) (hn : numS m v d h i s u = true) :
    Calls Tryd.prog 51 #[stV y m v d h i s u] w fun e w' => e = .returned (.int .i64 (chkS y m v d h i s u)) ∧ Below w.heap.size w w' := by
  have i0 := Below.refl w.heap.size w
  have i1 := i0.alloc (Nat.le_refl _) (.cells #[.int .u16 y, .int .u16 m, .int .u16 v, .int .u16 d, .int .u16 h, .int .u16 i, .int .u16 s, .int .u16 u] 24)
  obtain ⟨n1, n2, n3, n4, n5, n6, n7, n8⟩ := num_iff.1 hn
  have C := Lib.hid (chk_of hz)
  have H := Lib.hid hn
  clear hn
  obtain ⟨⟨b11, b12⟩, ⟨b21, b22⟩, ⟨b31, b32⟩, ⟨b41, b42⟩, ⟨b51, b52⟩, ⟨b61, b62⟩, ⟨b71, b72⟩, ⟨b81, b82⟩⟩ := B
  have hm0 : ¬ m = 0 := by omega
  clear hz
  by_cases hy : y = 0
  · subst hy
    by_cases hd : d ≤ 5
    · have E := Lib.hid (C.out.2.2 H.out (day_iff.2 (Or.inl ⟨rfl, hd⟩)))
      go_enter Tryd.func51, Tryd.ntmps51
      go_wp2_with fail
      go_ret
      exact ⟨ret_int E.out.symm, i1⟩
    · have E := Lib.hid (C.out.2.1 H.out (by
        cases hh : dayS 0 m d
        · rfl
        · have := day_iff.1 hh; omega))
      go_enter Tryd.func51, Tryd.ntmps51
      go_wp2_with fail
      go_ret
      exact ⟨ret_int E.out.symm, i1⟩
  · by_cases hr9 : y ≤ 9999
    · have ho : Cal.okYM y m = true := (Cal.okYM_iff y m).2 ⟨by omega, by omega, n1, n2⟩
      obtain ⟨l1, l2⟩ := Civ.len_of ho
      have lb := Cal.mlen_bd y m
      obtain ⟨lb1, lb2⟩ := lb
      clear ho
      by_cases r1 : 1601 ≤ y
      · by_cases hd : d ≤ Cal.mlen y m
        · have E := Lib.hid (C.out.2.2 H.out (day_iff.2 (Or.inr ⟨r1, hr9, hd⟩)))
          go_enter Tryd.func51, Tryd.ntmps51
          go_wp2_with fail
          refine (Civ.rlen_any _ _ _).mono ?_; rintro e w1 ⟨rfl, rfl⟩
          rw [l1, l2]
          go_wp2_with fail
          go_ret
          exact ⟨ret_int E.out.symm, i1⟩
        · have E := Lib.hid (C.out.2.1 H.out (by
            cases hh : dayS y m d
            · rfl
            · have := day_iff.1 hh; omega))
          go_enter Tryd.func51, Tryd.ntmps51
          go_wp2_with fail
          refine (Civ.rlen_any _ _ _).mono ?_; rintro e w1 ⟨rfl, rfl⟩
          rw [l1, l2]
          go_wp2_with fail
          go_ret
          exact ⟨ret_int E.out.symm, i1⟩
      · have E := Lib.hid (C.out.2.1 H.out (by
          cases hh : dayS y m d
          · rfl
          · have := day_iff.1 hh; omega))
        go_enter Tryd.func51, Tryd.ntmps51
        go_wp2_with fail
        refine (Civ.rlen_any _ _ _).mono ?_; rintro e w1 ⟨rfl, rfl⟩
        rw [l1, l2]
        go_wp2_with fail
        go_ret
        exact ⟨ret_int E.out.symm, i1⟩
    · have ho : ¬ Cal.okYM y m = true := fun q => by have := (Cal.okYM_iff y m).1 q; omega
      obtain ⟨l1, l2⟩ := Civ.len_off ho
      have E := Lib.hid (C.out.2.1 H.out (by
        cases hh : dayS y m d
        · rfl
        · have := day_iff.1 hh; omega))
      clear ho
      go_enter Tryd.func51, Tryd.ntmps51
      go_wp2_with fail
      refine (Civ.rlen_any _ _ _).mono ?_; rintro e w1 ⟨rfl, rfl⟩
      rw [l1, l2]
      go_wp2_with fail
      go_ret
      exact ⟨ret_int E.out.symm, i1⟩
set_option maxRecDepth 100000 in
set_option maxHeartbeats 4000000 in
theorem rchk_bad (y m v d h i s u : Int) (w : World) (B : Bd y m v d h i s u) (hz : zeroS y m v d h i s u = false) (hn : numS m v d h i s u = false) :
    Calls Tryd.prog 51 #[stV y m v d h i s u] w fun e w' => e = .returned (.int .i64 (chkS y m v d h i s u)) ∧ Below w.heap.size w w' := by
  have i0 := Below.refl w.heap.size w
  have i1 := i0.alloc (Nat.le_refl _) (.cells #[.int .u16 y, .int .u16 m, .int .u16 v, .int .u16 d, .int .u16 h, .int .u16 i, .int .u16 s, .int .u16 u] 24)
  have E := Lib.hid ((chk_of hz).1 hn)
  obtain ⟨⟨b11, b12⟩, ⟨b21, b22⟩, ⟨b31, b32⟩, ⟨b41, b42⟩, ⟨b51, b52⟩, ⟨b61, b62⟩, ⟨b71, b72⟩, ⟨b81, b82⟩⟩ := B
  have hbad : m < 1 ∨ (1 ≤ m ∧ 12 < m) ∨ (1 ≤ m ∧ m ≤ 12 ∧ 6 < v) ∨ (1 ≤ m ∧ m ≤ 12 ∧ v ≤ 6 ∧ 23 < h) ∨ (1 ≤ m ∧ m ≤ 12 ∧ v ≤ 6 ∧ h ≤ 23 ∧ 59 < i) ∨ (1 ≤ m ∧ m ≤ 12 ∧ v ≤ 6 ∧ h ≤ 23 ∧ i ≤ 59 ∧ 59 < s) ∨ (1 ≤ m ∧ m ≤ 12 ∧ v ≤ 6 ∧ h ≤ 23 ∧ i ≤ 59 ∧ s ≤ 59 ∧ 999 < u) ∨ (1 ≤ m ∧ m ≤ 12 ∧ v ≤ 6 ∧ h ≤ 23 ∧ i ≤ 59 ∧ s ≤ 59 ∧ u ≤ 999 ∧ d < 1) := by
    have hx : ¬ (1 ≤ m ∧ m ≤ 12 ∧ v ≤ 6 ∧ h ≤ 23 ∧ i ≤ 59 ∧ s ≤ 59 ∧ u ≤ 999 ∧ 1 ≤ d) := fun q => by rw [num_iff.2 q] at hn; cases hn
    omega
  clear hn
  rcases hbad with a1 | ⟨a1, a2⟩ | ⟨a1, a2, a3⟩ | ⟨a1, a2, a3, a4⟩ | ⟨a1, a2, a3, a4, a5⟩ | ⟨a1, a2, a3, a4, a5, a6⟩ | ⟨a1, a2, a3, a4, a5, a6, a7⟩ | ⟨a1, a2, a3, a4, a5, a6, a7, a8⟩
  · obtain rfl : m = 0 := by omega
    have hzz : ¬ y = 0 ∨ ¬ v = 0 ∨ ¬ d = 0 ∨ ¬ h = 0 ∨ ¬ i = 0 ∨ ¬ s = 0 ∨ ¬ u = 0 := by
      have : ¬ (y = 0 ∧ (0 : Int) = 0 ∧ v = 0 ∧ d = 0 ∧ h = 0 ∧ i = 0 ∧ s = 0 ∧ u = 0) := fun q => by rw [zero_iff.2 q] at hz; cases hz
      omega
    clear hz
    rcases hzz with q | q | q | q | q | q | q
    all_goals
      go_enter Tryd.func51, Tryd.ntmps51
      go_wp2_with fail
      go_ret
      exact ⟨ret_int E.out.symm, i1⟩
  all_goals
    clear hz
    have hm0 : ¬ m = 0 := by omega
    go_enter Tryd.func51, Tryd.ntmps51
    go_wp2_with fail
    go_ret
    exact ⟨ret_int E.out.symm, i1⟩
set_option maxRecDepth 100000 in
set_option maxHeartbeats 4000000 in
theorem rchkS_any (y m v d h i s u : Int) (w : World) (B : Bd y m v d h i s u) :
    Calls Tryd.prog 51 #[stV y m v d h i s u] w fun e w' => e = .returned (.int .i64 (chkS y m v d h i s u)) ∧ Below w.heap.size w w' := by
  cases hz : zeroS y m v d h i s u
  · cases hn : numS m v d h i s u
    · exact rchk_bad y m v d h i s u w B hz hn
    · exact rchk_num y m v d h i s u w B hz hn
  · obtain ⟨rfl, rfl, rfl, rfl, rfl, rfl, rfl, rfl⟩ := zero_iff.1 hz
    have i1 := (Below.refl w.heap.size w).alloc (Nat.le_refl _) (.cells #[.int .u16 0, .int .u16 0, .int .u16 0, .int .u16 0, .int .u16 0, .int .u16 0, .int .u16 0, .int .u16 0] 24)
    go_enter Tryd.func51, Tryd.ntmps51
    go_wp2_with fail
    go_ret
    exact ⟨ret_int chk_zero.symm, i1⟩
end Go.Proofs.YtgdgkgeoigljcaaDoor.Rf
