/-
  StampWhich, WALKED: a stamp of Year 0 falls on its day of the week, as many weeks into its month as its Day says.
-/
import Derived.Test.YtcjjgfejamddjaaDoorStpV
import Derived.Deep.QuietTactic
import Derived.BigQuiet
namespace Go.Proofs.YtcjjgfejamddjaaDoor.Stp
open Go.ChangeShapes Go.WideShapes Go.ChangeAt Go.RowKit
open Go.Proofs.YtcjjgfejamddjaaDoor
open Go.Proofs.YtcjjgfejamddjaaDoor.Civ (Tab bcell ret_bool ret_int ret_two Inv dateE)
open Go.Proofs.YtcjjgfejamddjaaDoor.Wd (Blk)
set_option linter.unusedVariables false
theorem num_day (Y m D : Int) : Cal.num Y m D = Cal.num Y m 1 + (D - 1) := by unfold Cal.num; omega
theorem pick_wday {Y m v d : Int} (h0 : 0 ≤ v) (h6 : v ≤ 6) : Cal.wday (Cal.num Y m (pickD Y m v d)) = v := by
  rw [num_day]
  unfold pickD dayK Cal.wday
  generalize Cal.num Y m 1 = N
  generalize Cal.mlen Y m = L
  split <;> omega
theorem pick_last {Y m v d : Int} (h0 : 0 ≤ v) (hd : d = 5) : Cal.mlen Y m - 7 < pickD Y m v d ∧ pickD Y m v d ≤ Cal.mlen Y m := by
  have lb := Cal.mlen_bd Y m
  unfold pickD dayK
  split <;> omega
theorem pick_week {Y m v d : Int} (h0 : 0 ≤ v) (h1 : 1 ≤ d) (h5 : d ≤ 5) (hd : d ≠ 5) : 7 * (d - 1) < pickD Y m v d ∧ pickD Y m v d ≤ 7 * d := by
  have lb := Cal.mlen_bd Y m
  unfold pickD dayK
  split <;> omega
theorem inv_set {w w1 : World} (hT : Tab w) (h : Civ.Inv w w1) (g i : Nat) (hg : w.heap.size ≤ g) (u : Value) : Civ.Inv w (w1.setCell ⟨g, i, none⟩ u) :=
  ⟨h.1.below (B := g) (Nat.lt_of_lt_of_le hT.1 hg) ((Below.refl _ _).setCell (p := ⟨g, i, none⟩) (Nat.le_refl _) u), h.2.setCell (p := ⟨g, i, none⟩) hg u⟩
set_option maxRecDepth 100000 in
set_option maxHeartbeats 8000000 in
theorem which_no (y m v d h i s u Y : Int) (w : World) (hT : Tab w) (B : Bd y m v d h i s u) (he : dtE 0 m v d h i s u Y ≠ 0) :
    Calls Tryd.prog 6 #[stV y m v d h i s u, .int .i64 Y] w fun e w' => e = .returned (.bool true) ∧ Below w.heap.size w w' := by
  have i0 := Civ.Inv.start hT
  have B0 : Bd 0 m v d h i s u := ⟨by omega, B.m, B.v, B.d, B.h, B.i, B.s, B.u⟩
  have e1 : dtY 0 m v d h i s u Y = 0 := by unfold dtY; rw [if_neg he]
  have e2 : dtM 0 m v d h i s u Y = 0 := by unfold dtM; rw [if_neg he]
  have e3 : dtD 0 m v d h i s u Y = 0 := by unfold dtD; rw [if_neg he]
  have heb : (dtE 0 m v d h i s u Y != 0) = true := by simp [he]
  clear he
  generalize hEE : dtE 0 m v d h i s u Y = E at *
  have HE := Lib.hid hEE; clear hEE
  go_enter Tryd.func6, Tryd.ntmps6
  go_wp2_with fail
  refine (lives_any _ (i0.alloc _).1).mono ?_; rintro e w1 ⟨rfl, hb1⟩
  have s1 := (Blk.new w 41 #[.int .u16 y, .int .u16 m, .int .u16 v, .int .u16 d, .int .u16 h, .int .u16 i, .int .u16 s, .int .u16 u]).below hb1 (by simp)
  have i1 := (i0.alloc _).call hb1
  clear hb1
  have c0 := s1.cell 0
  have cf0 := s1.frozen 0
  have c1 := s1.cell 1
  have cf1 := s1.frozen 1
  have c2 := s1.cell 2
  have cf2 := s1.frozen 2
  have c3 := s1.cell 3
  have cf3 := s1.frozen 3
  have c4 := s1.cell 4
  have cf4 := s1.frozen 4
  have c5 := s1.cell 5
  have cf5 := s1.frozen 5
  have c6 := s1.cell 6
  have cf6 := s1.frozen 6
  have c7 := s1.cell 7
  have cf7 := s1.frozen 7
  simp at c0 c1 c2 c3 c4 c5 c6 c7
  have cl := s1.lt
  go_wp2_with fail
  refine (date_at (inv_set hT i1 _ 0 (Nat.le_refl _) _).1 B0 e1 e2 e3 HE.out).mono ?_; rintro e w2 ⟨rfl, hb2⟩
  have i2 := (inv_set hT i1 w.heap.size 0 (Nat.le_refl _) (.int .u16 0)).call hb2
  go_wp2_with fail
  go_ret
  exact ⟨rfl, (i2.alloc _).2⟩
set_option maxRecDepth 100000 in
set_option maxHeartbeats 8000000 in
theorem which_yes (y m v d h i s u Y : Int) (w : World) (hT : Tab w) (B : Bd y m v d h i s u) (he : dtE 0 m v d h i s u Y = 0) :
    Calls Tryd.prog 6 #[stV y m v d h i s u, .int .i64 Y] w fun e w' => e = .returned (.bool true) ∧ Below w.heap.size w w' := by
  have i0 := Civ.Inv.start hT
  have B0 : Bd 0 m v d h i s u := ⟨by omega, B.m, B.v, B.d, B.h, B.i, B.s, B.u⟩
  obtain ⟨hok, x1, x2, hY1, hY2, hm1, hm2, hv6, x3, x4, x5, x6, hd1⟩ := dt_ok B0 he
  clear x3 x4 x5 x6
  have x3 : dtD 0 m v d h i s u Y = pickD Y m v d := by unfold dtD; rw [if_pos he, if_pos rfl]
  rw [x1, x2, x3] at hok
  obtain ⟨k1, k2, _⟩ := Civ.num_on hok
  have hym : Cal.okYM Y m = true := (Cal.okYM_iff Y m).2 ⟨by omega, by omega, hm1, hm2⟩
  obtain ⟨l1, l2⟩ := Civ.len_of hym
  have hwd := pick_wday (Y := Y) (m := m) (d := d) B.v.1 hv6
  have hd5 : d ≤ 5 := by
    have hk : okS 0 m v d h i s u = true := by
      cases hh : okS 0 m v d h i s u with
      | true => rfl
      | false => unfold dtE at he; rw [if_pos hh] at he; cases he
    unfold okS at hk
    rcases Bool.or_eq_true _ _ |>.mp hk with q | q
    · obtain ⟨_, _, _, q, _⟩ := zero_iff.1 q; omega
    · have := (Bool.and_eq_true _ _ |>.mp q).2
      rcases day_iff.1 this with q | q <;> omega
  have hpl := pick_last (Y := Y) (m := m) (d := d) B.v.1
  have hpw := pick_week (Y := Y) (m := m) (d := d) B.v.1 hd1 hd5
  have lb := Cal.mlen_bd Y m
  have hpb := pick_bd (Y := Y) (m := m) B.v.1 hd1 hd5
  have HE := Lib.hid he; have X1 := Lib.hid x1; have X2 := Lib.hid x2; have X3 := Lib.hid x3
  obtain ⟨b21, b22⟩ := B.m
  obtain ⟨b31, b32⟩ := B.v
  obtain ⟨b41, b42⟩ := B.d
  obtain ⟨lb1, lb2⟩ := lb
  obtain ⟨pb1, pb2⟩ := hpb
  clear he x1 x2 x3 hok hym hY1 hY2
  generalize hL : Cal.mlen Y m = L at *
  generalize hP : pickD Y m v d = P at *
  generalize hN : Cal.num Y m P = N at *
  have HP := Lib.hid hP; clear hP hN hL
  go_enter Tryd.func6, Tryd.ntmps6
  go_wp2_with fail
  refine (lives_any _ (i0.alloc _).1).mono ?_; rintro e w1 ⟨rfl, hb1⟩
  have s1 := (Blk.new w 41 #[.int .u16 y, .int .u16 m, .int .u16 v, .int .u16 d, .int .u16 h, .int .u16 i, .int .u16 s, .int .u16 u]).below hb1 (by simp)
  have i1 := (i0.alloc _).call hb1
  clear hb1
  have c0 := s1.cell 0
  have cf0 := s1.frozen 0
  have c1 := s1.cell 1
  have cf1 := s1.frozen 1
  have c2 := s1.cell 2
  have cf2 := s1.frozen 2
  have c3 := s1.cell 3
  have cf3 := s1.frozen 3
  have c4 := s1.cell 4
  have cf4 := s1.frozen 4
  have c5 := s1.cell 5
  have cf5 := s1.frozen 5
  have c6 := s1.cell 6
  have cf6 := s1.frozen 6
  have c7 := s1.cell 7
  have cf7 := s1.frozen 7
  simp at c0 c1 c2 c3 c4 c5 c6 c7
  have cl := s1.lt
  go_wp2_with fail
  refine (date_at (inv_set hT i1 _ 0 (Nat.le_refl _) _).1 B0 X1.out X2.out X3.out HE.out).mono ?_; rintro e w2 ⟨rfl, hb2⟩
  have i2 := (inv_set hT i1 w.heap.size 0 (Nat.le_refl _) (.int .u16 0)).call hb2
  have s2 := (s1.set_ 0 (.int .u16 0)).below hb2 (by have := s1.lt; simp; omega)
  simp at s2
  clear c0 cf0 c1 cf1 c2 cf2 c3 cf3 c4 cf4 c5 cf5 c6 cf6 c7 cf7 cl
  clear hb2 s1 i1
  go_wp2_with fail
  refine (Civ.days_any _ _ _ _ (i2.alloc _).1).mono ?_; rintro e w3 ⟨rfl, hb3⟩
  rw [k1, k2]
  have i3 := (i2.alloc _).call hb3
  have d3 := (Blk.new w2 27 #[.int .i64 Y, .int .i64 m, .int .i64 P]).below hb3 (by simp)
  have s3 := (s2.alloc (.cells #[.int .i64 Y, .int .i64 m, .int .i64 P] 27)).below hb3 (by have := s2.lt; simp; omega)
  clear hb3 s2 i2
  have p0 := s3.cell 0
  have p1 := s3.cell 1
  have p2 := s3.cell 2
  have p3 := s3.cell 3
  have p4 := s3.cell 4
  have p5 := s3.cell 5
  have p6 := s3.cell 6
  have p7 := s3.cell 7
  simp at p0 p1 p2 p3 p4 p5 p6 p7
  have pl := s3.lt
  have r0 := d3.cell 0
  have r1 := d3.cell 1
  have r2 := d3.cell 2
  simp at r0 r1 r2
  have rl := d3.lt
  clear s3 d3
  go_wp2_with fail
  refine (Civ.len_any _ _ _ i3.1).mono ?_; rintro e w4 ⟨rfl, rfl⟩
  rw [l1, l2]
  have hwm : IntKind.i64.wrap m = m := by simp [IntKind.wrap, IntKind.bits, IntKind.signed]; omega
  have hwv : IntKind.i64.wrap v = v := by simp [IntKind.wrap, IntKind.bits, IntKind.signed]; omega
  have hYb : (Y != Y) = false := by simp
  have hmb : (m != m) = false := by simp
  have hvb : (v != v) = false := by simp
  have hwq : ∀ w9 : World, Calls Tryd.prog 15 #[.int .i64 N] w9 fun e w' => e = .returned (.int .i64 v) ∧ w' = w9 := fun w9 => (Civ.wd_any N w9).mono fun e w' q => ⟨by rw [q.1, hwd], q.2.symm⟩
  go_wp2_with fail
  go_quiet (first | (go_at_call 15; refine Calls.quiet_of_same (hwq _)))
  by_cases hd : d = 5
  · obtain ⟨g1, g2⟩ := hpl hd
    have hdb : (d == 5) = true := by simp [hd]
    clear hpl hpw hd
    go_wp2
    go_ret
    exact ⟨rfl, Wd.bdrewN i3.2 _⟩
  · obtain ⟨g1, g2⟩ := hpw hd
    have hdb : (d == 5) = false := by simp [hd]
    clear hpl hpw hd
    go_wp2
    go_ret
    exact ⟨rfl, Wd.bdrewN i3.2 _⟩
theorem which_any (y m v d h i s u Y : Int) (w : World) (hT : Tab w) (B : Bd y m v d h i s u) :
    Calls Tryd.prog 6 #[stV y m v d h i s u, .int .i64 Y] w fun e w' => e = .returned (.bool true) ∧ Below w.heap.size w w' := by
  by_cases he : dtE 0 m v d h i s u Y = 0
  · exact which_yes y m v d h i s u Y w hT B he
  · exact which_no y m v d h i s u Y w hT B he
end Go.Proofs.YtcjjgfejamddjaaDoor.Stp
