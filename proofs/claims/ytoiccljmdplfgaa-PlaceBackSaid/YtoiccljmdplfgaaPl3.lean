/-
  THE PLANE's FUNCTIONS, WALKED: Distance, Quarter.
-/
import Derived.Test.YtoiccljmdplfgaaPl2
namespace Go.Proofs.Ytoiccljmdplfgaa.Pl
open Go.ChangeShapes Go.WideShapes Go.ChangeAt Go.RowKit
open Go.Proofs.Ytoiccljmdplfgaa
open Go.Proofs.Ytoiccljmdplfgaa.Wd
open Go.Proofs.Ytoiccljmdplfgaa.Flo (fl Is)
set_option linter.unusedVariables false
theorem wr2 {A B : Int} (hA : -1679616000000 ≤ A ∧ A ≤ 1679616000000) (hB : -1679616000000 ≤ B ∧ B ≤ 1679616000000) : wrap64 (A + wrap64 B) = A + B := by unfold wrap64; omega
theorem and_3 (n : Int) : bits .and .i64 n 3 = n % 4 := by
  show IntKind.i64.wrap ((BitVec.ofInt 64 n &&& BitVec.ofInt 64 3).toNat : Int) = n % 4
  have h3 : (BitVec.ofInt 64 3).toNat = 2 ^ 2 - 1 := by decide
  rw [BitVec.toNat_and, h3, Nat.and_two_pow_sub_one_eq_mod, BitVec.toNat_ofInt]
  have : IntKind.i64.wrap (((n % ((2 ^ 64 : Nat) : Int)).toNat % 2 ^ 2 : Nat) : Int) = (((n % ((2 ^ 64 : Nat) : Int)).toNat % 2 ^ 2 : Nat) : Int) := by
    simp [IntKind.wrap, IntKind.bits, IntKind.signed]; omega
  rw [this]; omega
abbrev p2 (a b : P2) : Array Value := #[.int .i64 a.la, .int .i64 a.lo, .int .i64 b.la, .int .i64 b.lo]
theorem right2 {w : World} {g : Nat} {t : TypeId} {a b : P2} (x : Blk w g t (p2 a b)) :
    Calls Try.prog 49 #[.slice (some ⟨g, 0, none⟩) 2 2] w fun e w' => e = .returned (.bool (a.ok && b.ok)) ∧ Below w.heap.size w w' := by
  have := right_any _ 2 2 _ [a, b] w (pts_of (l := [a, b]) x rfl) (Nat.le_refl _) (by decide)
  rwa [okP2] at this
theorem right1 {w : World} {g : Nat} {t : TypeId} {a : P2} (x : Blk w g t a.A) :
    Calls Try.prog 49 #[.slice (some ⟨g, 0, none⟩) 1 1] w fun e w' => e = .returned (.bool a.ok) ∧ Below w.heap.size w w' := by
  have := right_any _ 1 1 _ [a] w (pts_of (l := [a]) x rfl) (Nat.le_refl _) (by decide)
  rwa [okP1] at this
set_option maxRecDepth 20000 in
set_option maxHeartbeats 3200000 in
theorem dist_any (a b : P2) (w : World) :
    Calls Try.prog 17 #[a.V, b.V] w fun e w' => e = .returned (.int .i64 (distV a b)) ∧ Below w.heap.size w w' := by
  have i0 := BI.start w
  have i1 := ((i0.alloc (.cells a.A 23)).alloc (.cells b.A 23)).alloc (.cells (p2 a b) 23)
  have xa := ((Blk.new w 23 a.A).alloc (.cells b.A 23)).alloc (.cells (p2 a b) 23)
  have xb := (blk_at (w.alloc (.cells a.A 23)) 23 b.A (sz1 _ _ rfl)).alloc (.cells (p2 a b) 23)
  have xs := blk_at ((w.alloc (.cells a.A 23)).alloc (.cells b.A 23)) 23 (p2 a b) (sz1 _ _ (sz1 _ _ rfl))
  have hr := right2 xs
  cases h2 : (a.ok && b.ok)
  · have hv : distV a b = 0 := by unfold distV; rw [h2]; rfl
    rw [h2] at hr; rw [hv]; clear hv h2
    go_enter Try.func17, Try.ntmps17
    go_wp2_with fail
    refine hr.mono ?_; rintro e w1 ⟨rfl, hb1⟩
    have i2 := i1.call hb1
    go_wp2_with fail
    go_ret
    exact ⟨rfl, i2⟩
  · have hv : distV a b = (a.la - b.la) * (a.la - b.la) + lon (a.lo - b.lo) * lon (a.lo - b.lo) := by unfold distV; rw [if_pos h2]
    rw [h2] at hr; rw [hv]; clear hv
    rw [Bool.and_eq_true] at h2
    obtain ⟨⟨a1, a2, a3, a4⟩, b1, b2, b3, b4⟩ := And.intro (P2.ok_iff.1 h2.1) (P2.ok_iff.1 h2.2)
    clear h2
    have m1 := mul_lt (x := a.la - b.la) (y := a.la - b.la) (by omega) (by omega)
    obtain ⟨m11, m12⟩ := m1
    have hs : (0 ≤ a.lo - b.lo ∧ a.lo - b.lo ≤ 648000 ∧ lon (a.lo - b.lo) = a.lo - b.lo) ∨ (0 ≤ a.lo - b.lo ∧ 648000 < a.lo - b.lo ∧ lon (a.lo - b.lo) = 1296000 - (a.lo - b.lo)) ∨
        (a.lo - b.lo < 0 ∧ -(a.lo - b.lo) ≤ 648000 ∧ lon (a.lo - b.lo) = -(a.lo - b.lo)) ∨ (a.lo - b.lo < 0 ∧ 648000 < -(a.lo - b.lo) ∧ lon (a.lo - b.lo) = 1296000 + (a.lo - b.lo)) := by
      unfold lon gap; split <;> omega
    rcases hs with ⟨s1, s2, hL⟩ | ⟨s1, s2, hL⟩ | ⟨s1, s2, hL⟩ | ⟨s1, s2, hL⟩
    all_goals
      rw [hL]
      have m2 := mul_lt (x := lon (a.lo - b.lo)) (y := lon (a.lo - b.lo)) (by rw [hL]; omega) (by rw [hL]; omega)
      rw [hL] at m2
      obtain ⟨m21, m22⟩ := m2
      clear hL
      have q1 : IntKind.i64.wrap (a.la - b.la) = a.la - b.la := by simp [IntKind.wrap, IntKind.bits, IntKind.signed]; omega
      have q2 : IntKind.i64.wrap (a.lo - b.lo) = a.lo - b.lo := by simp [IntKind.wrap, IntKind.bits, IntKind.signed]; omega
      have Q1 := Lib.hid q1; have Q2 := Lib.hid q2
      clear q1 q2
      go_enter Try.func17, Try.ntmps17
      go_wp2_with fail
      refine hr.mono ?_; rintro e w1 ⟨rfl, hb1⟩
      have i2 := i1.call hb1
      have ya := xa.below hb1 xa.lt
      have yb := xb.below hb1 xb.lt
      have c0 := ya.cell 0; have c1 := ya.cell 1; have d0 := yb.cell 0; have d1 := yb.cell 1; simp at c0 c1 d0 d1
      clear xa xb xs i1 hr hb1 i0 ya yb
      go_upto_region 3 with fail
      have q1 := Q1.out; have q2 := Q2.out
      go_quiet (fail)
      clear q1 q2
      go_wp2_with fail
      go_ret
      first | exact ⟨rfl, bdrewN i2 _⟩ | exact ⟨congrArg (fun z => Ending.returned (.int .i64 z)) (wr2 ⟨m11, m12⟩ ⟨m21, m22⟩), bdrewN i2 _⟩
theorem rot_bd {p : P2} (h : p.ok = true) (n : Nat) : (-648000 ≤ (rotN p n).la ∧ (rotN p n).la ≤ 648000) ∧ (-648000 ≤ (rotN p n).lo ∧ (rotN p n).lo ≤ 648000) := by
  have := P2.ok_iff.1 h
  induction n with
  | zero => show (-648000 ≤ p.la ∧ p.la ≤ 648000) ∧ (-648000 ≤ p.lo ∧ p.lo ≤ 648000); omega
  | succ n ih => show (-648000 ≤ (rotN p n).lo ∧ (rotN p n).lo ≤ 648000) ∧ (-648000 ≤ -(rotN p n).la ∧ -(rotN p n).la ≤ 648000); omega
theorem is_1 : Is 4607182418800017408 1 := by
  have e : fl 1 = 4607182418800017408 := by decide +kernel
  have := Flo.fl_Is (n := 1) (by decide)
  rwa [e] at this
/-- times i: a quarter on -/
theorem times_i {a b : Nat} {p : P2} (ha : Is a p.lo) (hb : Is b p.la) (h : (-648000 ≤ p.la ∧ p.la ≤ 648000) ∧ (-648000 ≤ p.lo ∧ p.lo ≤ 648000)) :
    ∃ re im, cMulBits a b 0 4607182418800017408 = some (re, im) ∧ Is re (rot p).lo ∧ Is im (rot p).la := by
  obtain ⟨re, im, e, i1, i2⟩ := cmul ha hb is_0 is_1 (by omega) (by omega) (by omega) (by omega) (by omega) (by omega)
  refine ⟨re, im, e, ?_, ?_⟩
  · have : p.lo * 0 - p.la * 1 = (rot p).lo := by show _ = -p.la; omega
    rwa [this] at i1
  · have : p.lo * 1 + p.la * 0 = (rot p).la := by show _ = p.lo; omega
    rwa [this] at i2
set_option maxRecDepth 20000 in
set_option maxHeartbeats 3200000 in
theorem quarter_any (p : P2) (n : Int) (w : World) (hn : -9223372036854775808 ≤ n ∧ n ≤ 9223372036854775807) :
    Calls Try.prog 18 #[p.V, .int .i64 n] w fun e w' => e = .returned (quart p n).V ∧ Below w.heap.size w w' := by
  have i0 := BI.start w
  have i1 := ((i0.alloc (.cells p.A 23)).alloc (.cells #[.int .i64 0, .int .i64 0] 23)).alloc (.cells p.A 23)
  have xp := ((Blk.new w 23 p.A).alloc (.cells #[.int .i64 0, .int .i64 0] 23)).alloc (.cells p.A 23)
  have xz := (blk_at (w.alloc (.cells p.A 23)) 23 #[.int .i64 0, .int .i64 0] (sz1 _ _ rfl)).alloc (.cells p.A 23)
  have xs := blk_at ((w.alloc (.cells p.A 23)).alloc (.cells #[.int .i64 0, .int .i64 0] 23)) 23 p.A (sz1 _ _ (sz1 _ _ rfl))
  have hr := right1 xs
  cases h1 : p.ok
  · have hv : quart p n = ⟨0, 0⟩ := by unfold quart; rw [h1]; rfl
    rw [h1] at hr; rw [hv]; clear hv h1
    go_enter Try.func18, Try.ntmps18
    go_wp2_with fail
    refine hr.mono ?_; rintro e w1 ⟨rfl, hb1⟩
    have i2 := i1.call hb1
    have z2 := xz.below hb1 xz.lt
    go_wp2_with (refine wpList_store_g rfl 23 _ _ rfl rfl _ 0 #[.int .i64 0, .int .i64 0] #[.int .i64 0, .int .i64 0] rfl rfl _ _ z2 (by show 0 + 2 ≤ 2; decide) (by kernel_rfl) (by kernel_rfl) (by kernel_rfl) ?_)
    exact bodyPost_ret (results_p rfl _ _ _ _ _ rfl (Blk.row z2 _) rfl) rfl ⟨rfl, below_row i2 (Nat.le_add_right _ 1) _⟩
  · rw [h1] at hr
    have hp := P2.ok_iff.1 h1
    obtain ⟨m, hm⟩ : ∃ m : Nat, (n % 4).toNat = m := ⟨_, rfl⟩
    have hm4 : n % 4 = (m : Int) := by omega
    have hand := and_3 n
    rw [hm4] at hand
    have hbd := fun k => rot_bd h1 k
    have hq := hbd m
    have hlo := Flo.fl_Is (n := p.lo) (by omega)
    have hla := Flo.fl_Is (n := p.la) (by omega)
    have hnum := fun w => number_any p w
    have hQ : quart p n = if (rotN p m).ok = true then rotN p m else ⟨0, 0⟩ := by unfold quart; rw [if_pos h1, hm]
    rw [hQ]
    have hm3 : m ≤ 3 := by omega
    clear hQ hm hm4 h1 hp
    obtain ⟨q, hqq⟩ : ∃ q, rotN p m = q := ⟨_, rfl⟩
    rw [hqq]
    rw [hqq] at hq
    cases ho : q.ok
    · rw [if_neg (by decide)]
      go_enter Try.func18, Try.ntmps18
      go_wp2_with fail
      refine hr.mono ?_; rintro e w1 ⟨rfl, hb1⟩
      have i2 := i1.call hb1
      have p2_ := xp.below hb1 xp.lt
      have z2 := xz.below hb1 xz.lt
      clear xp xz xs i1 hr hb1 i0
      go_wp2_with (refine wpList_row_g rfl 23 _ rfl _ rfl _ _ _ _ p2_ Try.underlying23 rfl (by kernel_rfl) ?_)
      refine (hnum _).mono ?_; rintro e w2 ⟨rfl, hb2⟩
      have i3 := i2.call hb2
      have z3 := z2.below hb2 z2.lt
      clear p2_ z2 i2 hb2 hnum
      go_wp2_with fail
      go_loopw [5, 16] (fun z i w' => ∃ (k : Nat) (re im : Nat), i = .int .i64 k ∧ k ≤ m ∧ z = .complex .f64 re im ∧ Is re (rotN p k).lo ∧ Is im (rotN p k).la ∧ w' = w2) (fun _ i _ => m - (intOf i).toNat)
      case atStart => exact ⟨0, _, _, rfl, Nat.zero_le _, rfl, hlo, hla, rfl⟩
      case round =>
        obtain ⟨k, re, im, rfl, hk, rfl, hre, him, rfl⟩ := hrel
        by_cases hlt : k < m
        · have hlt' : (k : Int) < (m : Int) := by omega
          obtain ⟨re2, im2, e, ir, ii⟩ := times_i hre him (hbd k)
          have s3 := fun w => run_complex_mul (P := Try.prog) w 82 _ _ _ _ _ _ e
          clear e
          go_wp2_with fail
          go_roundw
          case rel => exact ⟨k + 1, re2, im2, by go_num, by omega, rfl, ir, ii, trivial⟩
          case measure => simp [intOf]; omega
        · obtain rfl : k = m := by omega
          have hlt' : ¬ (k : Int) < (k : Int) := by omega
          rw [hqq] at hre him
          have hpt := fun w => point_any q re im w hre him (by omega) (by omega)
          clear hbd hlo hla hre him
          go_wp2_with fail
          refine (hpt _).mono ?_; rintro e w3 ⟨rfl, hb3⟩
          have i4 := ((i3.call hb3).alloc (.cells q.A 23)).alloc (.cells q.A 23)
          have z4 := ((z3.below hb3 z3.lt).alloc (.cells q.A 23)).alloc (.cells q.A 23)
          have q4 := (Blk.new w3 23 q.A).alloc (.cells q.A 23)
          have s4 := blk_at (w3.alloc (.cells q.A 23)) 23 q.A (sz1 _ _ rfl)
          have q3 := Blk.new w3 23 q.A
          clear hpt i3 z3 hb3
          go_wp2_with (first
            | refine wpList_store_new rfl 23 _ _ rfl rfl w3.heap.size q.A rfl rfl _ #[.int .i64 0, .int .i64 0] w3 rfl rfl rfl (by kernel_rfl) (by kernel_rfl) ?_
            | refine wpList_row_g rfl 23 _ rfl _ rfl _ _ _ _ q3 Try.underlying23 rfl (by kernel_rfl) ?_)
          refine (right1 s4).mono ?_; rintro e w4 ⟨rfl, hb4⟩
          have i5 := i4.call hb4
          have z5 := z4.below hb4 z4.lt
          have q5 := q4.below hb4 q4.lt
          clear i4 z4 q4 q3 s4 hb4
          go_wp2_with (refine wpList_store_g rfl 23 _ _ rfl rfl _ 0 #[.int .i64 0, .int .i64 0] #[.int .i64 0, .int .i64 0] rfl rfl _ _ z5 (by show 0 + 2 ≤ 2; decide) (by kernel_rfl) (by kernel_rfl) (by kernel_rfl) ?_)
          exact bodyPost_ret (results_p rfl _ _ _ _ _ rfl (Blk.row z5 _) rfl) rfl ⟨rfl, below_row i5 (Nat.le_add_right _ 1) _⟩

    · rw [if_pos rfl]
      go_enter Try.func18, Try.ntmps18
      go_wp2_with fail
      refine hr.mono ?_; rintro e w1 ⟨rfl, hb1⟩
      have i2 := i1.call hb1
      have p2_ := xp.below hb1 xp.lt
      have z2 := xz.below hb1 xz.lt
      clear xp xz xs i1 hr hb1 i0
      go_wp2_with (refine wpList_row_g rfl 23 _ rfl _ rfl _ _ _ _ p2_ Try.underlying23 rfl (by kernel_rfl) ?_)
      refine (hnum _).mono ?_; rintro e w2 ⟨rfl, hb2⟩
      have i3 := i2.call hb2
      have z3 := z2.below hb2 z2.lt
      clear p2_ z2 i2 hb2 hnum
      go_wp2_with fail
      go_loopw [5, 16] (fun z i w' => ∃ (k : Nat) (re im : Nat), i = .int .i64 k ∧ k ≤ m ∧ z = .complex .f64 re im ∧ Is re (rotN p k).lo ∧ Is im (rotN p k).la ∧ w' = w2) (fun _ i _ => m - (intOf i).toNat)
      case atStart => exact ⟨0, _, _, rfl, Nat.zero_le _, rfl, hlo, hla, rfl⟩
      case round =>
        obtain ⟨k, re, im, rfl, hk, rfl, hre, him, rfl⟩ := hrel
        by_cases hlt : k < m
        · have hlt' : (k : Int) < (m : Int) := by omega
          obtain ⟨re2, im2, e, ir, ii⟩ := times_i hre him (hbd k)
          have s3 := fun w => run_complex_mul (P := Try.prog) w 82 _ _ _ _ _ _ e
          clear e
          go_wp2_with fail
          go_roundw
          case rel => exact ⟨k + 1, re2, im2, by go_num, by omega, rfl, ir, ii, trivial⟩
          case measure => simp [intOf]; omega
        · obtain rfl : k = m := by omega
          have hlt' : ¬ (k : Int) < (k : Int) := by omega
          rw [hqq] at hre him
          have hpt := fun w => point_any q re im w hre him (by omega) (by omega)
          clear hbd hlo hla hre him
          go_wp2_with fail
          refine (hpt _).mono ?_; rintro e w3 ⟨rfl, hb3⟩
          have i4 := ((i3.call hb3).alloc (.cells q.A 23)).alloc (.cells q.A 23)
          have z4 := ((z3.below hb3 z3.lt).alloc (.cells q.A 23)).alloc (.cells q.A 23)
          have q4 := (Blk.new w3 23 q.A).alloc (.cells q.A 23)
          have s4 := blk_at (w3.alloc (.cells q.A 23)) 23 q.A (sz1 _ _ rfl)
          have q3 := Blk.new w3 23 q.A
          clear hpt i3 z3 hb3
          go_wp2_with (first
            | refine wpList_store_new rfl 23 _ _ rfl rfl w3.heap.size q.A rfl rfl _ #[.int .i64 0, .int .i64 0] w3 rfl rfl rfl (by kernel_rfl) (by kernel_rfl) ?_
            | refine wpList_row_g rfl 23 _ rfl _ rfl _ _ _ _ q3 Try.underlying23 rfl (by kernel_rfl) ?_)
          refine (right1 s4).mono ?_; rintro e w4 ⟨rfl, hb4⟩
          have i5 := i4.call hb4
          have z5 := z4.below hb4 z4.lt
          have q5 := q4.below hb4 q4.lt
          clear i4 z4 q4 q3 s4 hb4
          go_wp2_with (first
            | refine wpList_row_g rfl 23 _ rfl _ rfl _ _ _ _ q5 Try.underlying23 rfl (by kernel_rfl) ?_
            | refine wpList_store_g rfl 23 _ _ rfl rfl _ 0 q.A q.A rfl rfl _ _ z5 (by show 0 + 2 ≤ 2; decide) (by kernel_rfl) (by kernel_rfl) (by kernel_rfl) ?_)
          exact bodyPost_ret (results_p rfl _ _ _ _ _ rfl (Blk.row z5 _) rfl) rfl ⟨rfl, below_row i5 (Nat.le_add_right _ 1) _⟩
end Go.Proofs.Ytoiccljmdplfgaa.Pl
