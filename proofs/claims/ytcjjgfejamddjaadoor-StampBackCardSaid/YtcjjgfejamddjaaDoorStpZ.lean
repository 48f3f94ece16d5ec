/-
  StampBack, WALKED: bytes there and back; a time has a stamp in its year, and in no other.
-/
import Derived.Test.YtcjjgfejamddjaaDoorStpK
import Derived.Deep.DeepCutAuto
namespace Go.Proofs.YtcjjgfejamddjaaDoor.Stp
open Go.ChangeShapes Go.WideShapes Go.ChangeAt Go.RowKit
open Go.Proofs.YtcjjgfejamddjaaDoor
open Go.Proofs.YtcjjgfejamddjaaDoor.Civ (Tab bcell ret_bool ret_int ret_two Inv dateE)
open Go.Proofs.YtcjjgfejamddjaaDoor.Wd (Blk)
set_option linter.unusedVariables false
theorem bytes_at {y m v d h i s u : Nat} {w : World} (B : ∀ z ∈ stL y m v d h i s u, z ≤ 65535) :
    Calls Tryd.prog 21 #[stN y m v d h i s u] w fun e w' => e = .returned (.string ⟨(Lit.encN 2 (stL y m v d h i s u)).toArray⟩) ∧ Below w.heap.size w w' := bytes_any y m v d h i s u w B
theorem enc_size (l : List Nat) (h : l.length = 8) : ByteArray.size ⟨(Lit.encN 2 l).toArray⟩ = 16 := by
  rw [← Lit.LB_len]; show (Lit.encN 2 l).length = 16; rw [Lit.encN_len, h]
theorem of_enc {y m v d h i s u : Nat} {w : World} (B : ∀ z ∈ stL y m v d h i s u, z ≤ 65535) :
    Calls Tryd.prog 20 #[.string ⟨(Lit.encN 2 (stL y m v d h i s u)).toArray⟩] w fun e w' => e = .returned (.tuple #[stN y m v d h i s u, .int .i64 0]) ∧ Below w.heap.size w w' := by
  have := of_full ⟨(Lit.encN 2 (stL y m v d h i s u)).toArray⟩ w (enc_size _ rfl)
  rw [ofV_enc _ B (k := 0) (show 0 < 8 by decide), ofV_enc _ B (k := 1) (show 1 < 8 by decide), ofV_enc _ B (k := 2) (show 2 < 8 by decide), ofV_enc _ B (k := 3) (show 3 < 8 by decide), ofV_enc _ B (k := 4) (show 4 < 8 by decide), ofV_enc _ B (k := 5) (show 5 < 8 by decide), ofV_enc _ B (k := 6) (show 6 < 8 by decide), ofV_enc _ B (k := 7) (show 7 < 8 by decide)] at this
  exact this
abbrev stA (y m v d h i s u : Int) : Array Value := #[.int .u16 y, .int .u16 m, .int .u16 v, .int .u16 d, .int .u16 h, .int .u16 i, .int .u16 s, .int .u16 u]
theorem x_pack {ms : Int} (hx : xOk ms = true) (hr : -9223372036854775808 ≤ ms ∧ ms ≤ 9223372036854775807) (Y : Int) :
    ∃ a b c d e f g k : Int, (∀ w, Tab w → Calls Tryd.prog 22 #[.int .i64 ms] w fun e' w' => e' = .returned (.tuple #[stV a b c d e f g k, .int .i64 0]) ∧ Below w.heap.size w w') ∧
      Bd a b c d e f g k ∧ lcV a b c d e f g k a = ms ∧ dtE a b c d e f g k a = 0 ∧ chkS a b c d e f g k = 0 ∧ (dtE a b c d e f g k Y == 0) = (Y == a) := by
  refine ⟨_, _, _, _, _, _, _, _, fun w hT => ?_, (x_right hx).2, (x_time hx).2, (x_time hx).1, ?_, ?_⟩
  · have := exact_any ms w hT hr
    rw [if_pos hx, if_pos hx] at this
    exact this
  · unfold chkS; rw [if_pos (x_right hx).1]
  · obtain ⟨_, h2, h3⟩ := x_iff.1 hx
    have := dt_exact (x_right hx).1 h2 h3 Y
    rw [Bool.eq_iff_iff, beq_iff_eq, beq_iff_eq]
    exact this
theorem l_pack {y m v d h i s u Y : Int} (B : Bd y m v d h i s u) (he : dtE y m v d h i s u Y = 0) :
    ∃ n W D i' s' : Int, (∀ w, Tab w → Calls Tryd.prog 22 #[.int .i64 n] w fun e' w' => e' = .returned (.tuple #[stV Y m W D h i' s' u, .int .i64 0]) ∧ Below w.heap.size w w') ∧
      lcV y m v d h i s u Y = n ∧ dtY y m v d h i s u Y = Y ∧ dtM y m v d h i s u Y = m ∧ dtD y m v d h i s u Y = D ∧ 0 ≤ Y ∧ Y ≤ 9999 ∧ 0 ≤ D ∧ D ≤ 65535 := by
  obtain ⟨hx, e1, e2, e3, e4, e5, r1, r2⟩ := l_back B he
  obtain ⟨hok, d1, d2, hY1, hY2, _⟩ := dt_ok B he
  obtain ⟨_, _, _, _, k3, k4⟩ := (Cal.okD_iff _ _ _).1 hok
  have lb := Cal.mlen_bd (dtY y m v d h i s u Y) (dtM y m v d h i s u Y)
  refine ⟨lcV y m v d h i s u Y, Cal.wday (xD (lcV y m v d h i s u Y)), dtD y m v d h i s u Y, xT (lcV y m v d h i s u Y) / 60000 % 60, xT (lcV y m v d h i s u Y) / 1000 % 60, fun w hT => ?_, rfl, d1, d2, rfl, by omega, by omega, by omega, by omega⟩
  have := exact_any (lcV y m v d h i s u Y) w hT ⟨r1, r2⟩
  rw [if_pos hx, if_pos hx] at this
  unfold xSt at this
  rw [e1, e2, e3, e4, e5] at this
  exact this
theorem exact_off {ms : Int} (hx : xOk ms = false) (hr : -9223372036854775808 ≤ ms ∧ ms ≤ 9223372036854775807) {w : World} (hT : Tab w) :
    Calls Tryd.prog 22 #[.int .i64 ms] w fun e w' => e = .returned (.tuple #[stV 0 0 0 0 0 0 0 0, .int .i64 1]) ∧ Below w.heap.size w w' := exact_no ms w hT hr hx
theorem back_bytes {b : ByteArray} {w : World} (hb : b.size = 16) :
    Calls Tryd.prog 21 #[stN (ofV b 0) (ofV b 1) (ofV b 2) (ofV b 3) (ofV b 4) (ofV b 5) (ofV b 6) (ofV b 7)] w fun e w' => e = .returned (.string ⟨(Lit.LB b).toArray⟩) ∧ Below w.heap.size w w' := by
  have := bytes_any (ofV b 0) (ofV b 1) (ofV b 2) (ofV b 3) (ofV b 4) (ofV b 5) (ofV b 6) (ofV b 7) w (by
    intro z hz
    simp [stL] at hz
    rcases hz with rfl | rfl | rfl | rfl | rfl | rfl | rfl | rfl <;> exact ofV_lt _ _)
  rw [of_back b hb] at this
  exact this
set_option maxRecDepth 100000 in
set_option maxHeartbeats 16000000 in
theorem back_any (y m v d h i s u : Nat) (b : ByteArray) (ms Y : Int) (w : World) (hT : Tab w) (B : Bd y m v d h i s u) (hr : -9223372036854775808 ≤ ms ∧ ms ≤ 9223372036854775807) (hb : b.size ≤ 1000) :
    Calls Tryd.prog 5 #[stV y m v d h i s u, .string b, .int .i64 ms, .int .i64 Y] w fun e w' => e = .returned (.bool true) ∧ Below w.heap.size w w' := by
  have i0 := Civ.Inv.start hT
  have BN : ∀ z ∈ stL y m v d h i s u, z ≤ 65535 := by
    intro z hz
    have h1 := B.y.2; have h2 := B.m.2; have h3 := B.v.2; have h4 := B.d.2; have h5 := B.h.2; have h6 := B.i.2; have h7 := B.s.2; have h8 := B.u.2
    simp [stL] at hz
    rcases hz with rfl | rfl | rfl | rfl | rfl | rfl | rfl | rfl <;> omega
  have hb' : ¬ (1000 : Int) < (b.size : Int) := by omega
  go_enter Tryd.func5, Tryd.ntmps5
  go_upto_region 8 with (first
    | (go_at_call 19; refine (lives_any _ (i0.alloc _).1).mono ?_; rintro e w1 ⟨rfl, hb1⟩; have s1 := (Blk.new w 41 (stA y m v d h i s u)).below hb1 (by simp); have i1 := (i0.alloc _).call hb1; have c0 := s1.cell 0; have c1 := s1.cell 1; have c2 := s1.cell 2; have c3 := s1.cell 3; have c4 := s1.cell 4; have c5 := s1.cell 5; have c6 := s1.cell 6; have c7 := s1.cell 7; have cl := s1.lt; simp at c0 c1 c2 c3 c4 c5 c6 c7; clear hb1)
    | (go_at_call 21; refine (bytes_at BN).mono ?_; rintro e w2 ⟨rfl, hb2⟩; have s2 := s1.below hb2 cl; have i2 := i1.call hb2; clear c0 c1 c2 c3 c4 c5 c6 c7 cl; clear hb2 s1 i1)
    | (go_at_call 20; refine (of_enc BN).mono ?_; rintro e w3 ⟨rfl, hb3⟩; have s3 := s2.below hb3 s2.lt; have i3 := i2.call hb3; have c0 := s3.cell 0; have c1 := s3.cell 1; have c2 := s3.cell 2; have c3 := s3.cell 3; have c4 := s3.cell 4; have c5 := s3.cell 5; have c6 := s3.cell 6; have c7 := s3.cell 7; have cl := s3.lt; simp at c0 c1 c2 c3 c4 c5 c6 c7; clear hb3 s2 i2))
  by_cases h16 : b.size = 16
  · have hbb : ((b.size : Int) == 16) = true := by rw [beq_iff_eq]; omega
    have hse : (Lit.LB b == b.toList) = true := by rw [beq_iff_eq, Lib.toList_data]
    go_upto_region 11 with (first
      | (go_at_call 20; refine (of_full b _ h16).mono ?_; rintro e w4 ⟨rfl, hb4⟩; have s4 := (s3.alloc _).below hb4 (by have := s3.lt; simp; omega); have i4 := (i3.alloc _).call hb4; clear c0 c1 c2 c3 c4 c5 c6 c7 cl; clear hb4 s3 i3)
      | (go_at_call 21; refine (back_bytes h16).mono ?_; rintro e w5 ⟨rfl, hb5⟩; have s5 := (s4.alloc _).below hb5 (by have := s4.lt; simp; omega); have i5 := (i4.alloc _).call hb5; clear hb5 s4 i4))
    clear hbb hse h16 hb'
    cases hxo : xOk ms with
    | false =>
      go_upto_region 17 with (go_at_call 22; refine (exact_off hxo hr i5.1).mono ?_; rintro e w6 ⟨rfl, hb6⟩; have s6 := s5.below hb6 (by have := s5.lt; simp; omega); have i6 := i5.call hb6; clear hb6 s5 i5)
      have c0 := s6.cell 0; have c1 := s6.cell 1; have c2 := s6.cell 2; have c3 := s6.cell 3; have c4 := s6.cell 4; have c5 := s6.cell 5; have c6 := s6.cell 6; have c7 := s6.cell 7; have cl := s6.lt; simp at c0 c1 c2 c3 c4 c5 c6 c7
      by_cases he : dtE y m v d h i s u Y = 0
      · obtain ⟨n1, W1, D1, i1', s1', hex2, l1, l2, l3, l4, q1, q2, q3, q4⟩ := l_pack B he
        have hwY : IntKind.i64.wrap Y = Y := by simp [IntKind.wrap, IntKind.bits, IntKind.signed]; omega
        have hwm : IntKind.i64.wrap (m : Int) = (m : Int) := by have := B.m.2; simp [IntKind.wrap, IntKind.bits, IntKind.signed]; omega
        have hwD : IntKind.i64.wrap D1 = D1 := by simp [IntKind.wrap, IntKind.bits, IntKind.signed]; omega
        have HE := Lib.hid he; have L1 := Lib.hid l1; have L2 := Lib.hid l2; have L3 := Lib.hid l3; have L4 := Lib.hid l4
        clear he l1 l2 l3 l4 q1 q2 q3 q4 hr
        go_wp2_with (first
          | (go_at_call 23; refine (local_at (i6.alloc _).1 B L1.out HE.out).mono ?_; rintro e w20 ⟨rfl, hb20⟩; have s20 := (s6.alloc _).below hb20 (by have := s6.lt; simp; omega); have i20 := (i6.alloc _).call hb20; clear hb20 s6 i6; clear c0 c1 c2 c3 c4 c5 c6 c7 cl)
          | (go_at_call 22; refine (hex2 _ i20.1).mono ?_; rintro e w21 ⟨rfl, hb21⟩; have s21 := s20.below hb21 s20.lt; have i21 := i20.call hb21; clear hb21 s20 i20; have c0 := s21.cell 0; have c1 := s21.cell 1; have c2 := s21.cell 2; have c3 := s21.cell 3; have c4 := s21.cell 4; have c5 := s21.cell 5; have c6 := s21.cell 6; have c7 := s21.cell 7; have cl := s21.lt; simp at c0 c1 c2 c3 c4 c5 c6 c7)
          | (go_at_call 25; refine (date_at (i21.alloc _).1 B L2.out L3.out L4.out HE.out).mono ?_; rintro e w22 ⟨rfl, hb22⟩; have s22 := (s21.alloc _).below hb22 (by have := s21.lt; simp; omega); have i22 := (i21.alloc _).call hb22; have z22 := (Blk.new w21 41 (stA Y m W1 D1 h i1' s1' u)).below hb22 (by simp); clear c0 c1 c2 c3 c4 c5 c6 c7 cl; clear hb22 s21 i21; have c0 := s22.cell 0; have c1 := s22.cell 1; have c2 := s22.cell 2; have c3 := s22.cell 3; have c4 := s22.cell 4; have c5 := s22.cell 5; have c6 := s22.cell 6; have c7 := s22.cell 7; have cl := s22.lt; simp at c0 c1 c2 c3 c4 c5 c6 c7; have z0 := z22.cell 0; have z1 := z22.cell 1; have z2 := z22.cell 2; have z3 := z22.cell 3; have z4 := z22.cell 4; have z5 := z22.cell 5; have z6 := z22.cell 6; have z7 := z22.cell 7; have zl := z22.lt; simp at z0 z1 z2 z3 z4 z5 z6 z7))
        go_ret
        exact ⟨rfl, (i22.alloc _).2⟩
      · have l0 : lcV y m v d h i s u Y = 0 := by unfold lcV; rw [if_neg he]
        have heb : (dtE y m v d h i s u Y != 0) = true := by simp [he]
        clear he hr
        generalize hEE : dtE y m v d h i s u Y = E at *
        have HE := Lib.hid hEE; clear hEE
        go_wp2_with (go_at_call 23; refine (local_at (i6.alloc _).1 B l0 HE.out).mono ?_; rintro e w20 ⟨rfl, hb20⟩; have i20 := (i6.alloc _).call hb20; clear hb20)
        go_ret
        exact ⟨rfl, i20.2⟩
    | true =>
      obtain ⟨xa, xb, xc, xd, xe, xf, xg, xk, hex, B1, x1', x2', x3', x4'⟩ := x_pack hxo hr Y
      have hwa : IntKind.i64.wrap xa = xa := by have := B1.y; simp [IntKind.wrap, IntKind.bits, IntKind.signed]; omega
      have X1 := Lib.hid x1'; have X2 := Lib.hid x2'; have X3 := Lib.hid x3'; clear x1' x2' x3'
      generalize hE2 : dtE xa xb xc xd xe xf xg xk Y = E2 at *
      have HE2 := Lib.hid hE2; clear hE2
      have hne : ((Y == xa) != (Y == xa)) = false := by simp
      have hmm : (ms != ms) = false := by simp
      go_upto_region 17 with (first
        | (go_at_call 22; refine (hex _ i5.1).mono ?_; rintro e w6 ⟨rfl, hb6⟩; have s6 := s5.below hb6 (by have := s5.lt; simp; omega); have i6 := i5.call hb6; clear hb6 s5 i5)
        | (go_at_call 23; refine (local_at (i6.alloc _).1 B1 X1.out X2.out).mono ?_; rintro e w7 ⟨rfl, hb7⟩; have s7 := (s6.alloc _).below hb7 (by have := s6.lt; simp; omega); have i7 := (i6.alloc _).call hb7; have x7 := (Blk.new w6 41 (stA xa xb xc xd xe xf xg xk)).below hb7 (by simp); have z0 := x7.cell 0; have z1 := x7.cell 1; have z2 := x7.cell 2; have z3 := x7.cell 3; have z4 := x7.cell 4; have z5 := x7.cell 5; have z6 := x7.cell 6; have z7 := x7.cell 7; have zl := x7.lt; simp at z0 z1 z2 z3 z4 z5 z6 z7; clear hb7 s6 i6)
        | (go_at_call 23; refine (local_at i7.1 B1 rfl HE2.out).mono ?_; rintro e w8 ⟨rfl, hb8⟩; have s8 := s7.below hb8 s7.lt; have i8 := i7.call hb8; have x8 := x7.below hb8 x7.lt; clear z0 z1 z2 z3 z4 z5 z6 z7 zl; have z0 := x8.cell 0; have z1 := x8.cell 1; have z2 := x8.cell 2; have z3 := x8.cell 3; have z4 := x8.cell 4; have z5 := x8.cell 5; have z6 := x8.cell 6; have z7 := x8.cell 7; have zl := x8.lt; simp at z0 z1 z2 z3 z4 z5 z6 z7; clear hb8 s7 i7 x7)
        | (go_at_call 24; refine (chk_at i8.1 B1 X3.out).mono ?_; rintro e w9 ⟨rfl, hb9⟩; have s9 := s8.below hb9 s8.lt; have i9 := i8.call hb9; have x9 := x8.below hb9 x8.lt; clear z0 z1 z2 z3 z4 z5 z6 z7 zl; have z0 := x9.cell 0; have z1 := x9.cell 1; have z2 := x9.cell 2; have z3 := x9.cell 3; have z4 := x9.cell 4; have z5 := x9.cell 5; have z6 := x9.cell 6; have z7 := x9.cell 7; have zl := x9.lt; simp at z0 z1 z2 z3 z4 z5 z6 z7; clear hb9 s8 i8 x8))
      clear z0 z1 z2 z3 z4 z5 z6 z7 zl
      clear x9 hne hmm hwa hex B1 X1 X2 X3 HE2 x4'
      have c0 := s9.cell 0; have c1 := s9.cell 1; have c2 := s9.cell 2; have c3 := s9.cell 3; have c4 := s9.cell 4; have c5 := s9.cell 5; have c6 := s9.cell 6; have c7 := s9.cell 7; have cl := s9.lt; simp at c0 c1 c2 c3 c4 c5 c6 c7
      by_cases he : dtE y m v d h i s u Y = 0
      · obtain ⟨n1, W1, D1, i1', s1', hex2, l1, l2, l3, l4, q1, q2, q3, q4⟩ := l_pack B he
        have hwY : IntKind.i64.wrap Y = Y := by simp [IntKind.wrap, IntKind.bits, IntKind.signed]; omega
        have hwm : IntKind.i64.wrap (m : Int) = (m : Int) := by have := B.m.2; simp [IntKind.wrap, IntKind.bits, IntKind.signed]; omega
        have hwD : IntKind.i64.wrap D1 = D1 := by simp [IntKind.wrap, IntKind.bits, IntKind.signed]; omega
        have HE := Lib.hid he; have L1 := Lib.hid l1; have L2 := Lib.hid l2; have L3 := Lib.hid l3; have L4 := Lib.hid l4
        clear he l1 l2 l3 l4 q1 q2 q3 q4 hr
        go_wp2_with (first
          | (go_at_call 23; refine (local_at i9.1 B L1.out HE.out).mono ?_; rintro e w20 ⟨rfl, hb20⟩; have s20 := s9.below hb20 (by have := s9.lt; simp; omega); have i20 := i9.call hb20; clear hb20 s9 i9; clear c0 c1 c2 c3 c4 c5 c6 c7 cl)
          | (go_at_call 22; refine (hex2 _ i20.1).mono ?_; rintro e w21 ⟨rfl, hb21⟩; have s21 := s20.below hb21 s20.lt; have i21 := i20.call hb21; clear hb21 s20 i20; have c0 := s21.cell 0; have c1 := s21.cell 1; have c2 := s21.cell 2; have c3 := s21.cell 3; have c4 := s21.cell 4; have c5 := s21.cell 5; have c6 := s21.cell 6; have c7 := s21.cell 7; have cl := s21.lt; simp at c0 c1 c2 c3 c4 c5 c6 c7)
          | (go_at_call 25; refine (date_at (i21.alloc _).1 B L2.out L3.out L4.out HE.out).mono ?_; rintro e w22 ⟨rfl, hb22⟩; have s22 := (s21.alloc _).below hb22 (by have := s21.lt; simp; omega); have i22 := (i21.alloc _).call hb22; have z22 := (Blk.new w21 41 (stA Y m W1 D1 h i1' s1' u)).below hb22 (by simp); clear c0 c1 c2 c3 c4 c5 c6 c7 cl; clear hb22 s21 i21; have c0 := s22.cell 0; have c1 := s22.cell 1; have c2 := s22.cell 2; have c3 := s22.cell 3; have c4 := s22.cell 4; have c5 := s22.cell 5; have c6 := s22.cell 6; have c7 := s22.cell 7; have cl := s22.lt; simp at c0 c1 c2 c3 c4 c5 c6 c7; have z0 := z22.cell 0; have z1 := z22.cell 1; have z2 := z22.cell 2; have z3 := z22.cell 3; have z4 := z22.cell 4; have z5 := z22.cell 5; have z6 := z22.cell 6; have z7 := z22.cell 7; have zl := z22.lt; simp at z0 z1 z2 z3 z4 z5 z6 z7))
        go_ret
        exact ⟨rfl, (i22.alloc _).2⟩
      · have l0 : lcV y m v d h i s u Y = 0 := by unfold lcV; rw [if_neg he]
        have heb : (dtE y m v d h i s u Y != 0) = true := by simp [he]
        clear he hr
        generalize hEE : dtE y m v d h i s u Y = E at *
        have HE := Lib.hid hEE; clear hEE
        go_wp2_with (go_at_call 23; refine (local_at i9.1 B l0 HE.out).mono ?_; rintro e w20 ⟨rfl, hb20⟩; have i20 := i9.call hb20; clear hb20)
        go_ret
        exact ⟨rfl, i20.2⟩
  · have hbb : ((b.size : Int) == 16) = false := by rw [beq_eq_false_iff_ne]; omega
    go_upto_region 11 with (go_at_call 20; refine (of_short b _ h16).mono ?_; rintro e w4 ⟨rfl, hb4⟩; have s4 := (s3.alloc _).below hb4 (by have := s3.lt; simp; omega); have i4 := (i3.alloc _).call hb4; clear c0 c1 c2 c3 c4 c5 c6 c7 cl; clear hb4 s3 i3)
    clear hbb h16 hb'
    cases hxo : xOk ms with
    | false =>
      go_upto_region 17 with (go_at_call 22; refine (exact_off hxo hr (i4.alloc _).1).mono ?_; rintro e w6 ⟨rfl, hb6⟩; have s6 := (s4.alloc _).below hb6 (by have := s4.lt; simp; omega); have i6 := (i4.alloc _).call hb6; clear hb6 s4 i4)
      have c0 := s6.cell 0; have c1 := s6.cell 1; have c2 := s6.cell 2; have c3 := s6.cell 3; have c4 := s6.cell 4; have c5 := s6.cell 5; have c6 := s6.cell 6; have c7 := s6.cell 7; have cl := s6.lt; simp at c0 c1 c2 c3 c4 c5 c6 c7
      by_cases he : dtE y m v d h i s u Y = 0
      · obtain ⟨n1, W1, D1, i1', s1', hex2, l1, l2, l3, l4, q1, q2, q3, q4⟩ := l_pack B he
        have hwY : IntKind.i64.wrap Y = Y := by simp [IntKind.wrap, IntKind.bits, IntKind.signed]; omega
        have hwm : IntKind.i64.wrap (m : Int) = (m : Int) := by have := B.m.2; simp [IntKind.wrap, IntKind.bits, IntKind.signed]; omega
        have hwD : IntKind.i64.wrap D1 = D1 := by simp [IntKind.wrap, IntKind.bits, IntKind.signed]; omega
        have HE := Lib.hid he; have L1 := Lib.hid l1; have L2 := Lib.hid l2; have L3 := Lib.hid l3; have L4 := Lib.hid l4
        clear he l1 l2 l3 l4 q1 q2 q3 q4 hr
        go_wp2_with (first
          | (go_at_call 23; refine (local_at (i6.alloc _).1 B L1.out HE.out).mono ?_; rintro e w20 ⟨rfl, hb20⟩; have s20 := (s6.alloc _).below hb20 (by have := s6.lt; simp; omega); have i20 := (i6.alloc _).call hb20; clear hb20 s6 i6; clear c0 c1 c2 c3 c4 c5 c6 c7 cl)
          | (go_at_call 22; refine (hex2 _ i20.1).mono ?_; rintro e w21 ⟨rfl, hb21⟩; have s21 := s20.below hb21 s20.lt; have i21 := i20.call hb21; clear hb21 s20 i20; have c0 := s21.cell 0; have c1 := s21.cell 1; have c2 := s21.cell 2; have c3 := s21.cell 3; have c4 := s21.cell 4; have c5 := s21.cell 5; have c6 := s21.cell 6; have c7 := s21.cell 7; have cl := s21.lt; simp at c0 c1 c2 c3 c4 c5 c6 c7)
          | (go_at_call 25; refine (date_at (i21.alloc _).1 B L2.out L3.out L4.out HE.out).mono ?_; rintro e w22 ⟨rfl, hb22⟩; have s22 := (s21.alloc _).below hb22 (by have := s21.lt; simp; omega); have i22 := (i21.alloc _).call hb22; have z22 := (Blk.new w21 41 (stA Y m W1 D1 h i1' s1' u)).below hb22 (by simp); clear c0 c1 c2 c3 c4 c5 c6 c7 cl; clear hb22 s21 i21; have c0 := s22.cell 0; have c1 := s22.cell 1; have c2 := s22.cell 2; have c3 := s22.cell 3; have c4 := s22.cell 4; have c5 := s22.cell 5; have c6 := s22.cell 6; have c7 := s22.cell 7; have cl := s22.lt; simp at c0 c1 c2 c3 c4 c5 c6 c7; have z0 := z22.cell 0; have z1 := z22.cell 1; have z2 := z22.cell 2; have z3 := z22.cell 3; have z4 := z22.cell 4; have z5 := z22.cell 5; have z6 := z22.cell 6; have z7 := z22.cell 7; have zl := z22.lt; simp at z0 z1 z2 z3 z4 z5 z6 z7))
        go_ret
        exact ⟨rfl, (i22.alloc _).2⟩
      · have l0 : lcV y m v d h i s u Y = 0 := by unfold lcV; rw [if_neg he]
        have heb : (dtE y m v d h i s u Y != 0) = true := by simp [he]
        clear he hr
        generalize hEE : dtE y m v d h i s u Y = E at *
        have HE := Lib.hid hEE; clear hEE
        go_wp2_with (go_at_call 23; refine (local_at (i6.alloc _).1 B l0 HE.out).mono ?_; rintro e w20 ⟨rfl, hb20⟩; have i20 := (i6.alloc _).call hb20; clear hb20)
        go_ret
        exact ⟨rfl, i20.2⟩
    | true =>
      obtain ⟨xa, xb, xc, xd, xe, xf, xg, xk, hex, B1, x1', x2', x3', x4'⟩ := x_pack hxo hr Y
      have hwa : IntKind.i64.wrap xa = xa := by have := B1.y; simp [IntKind.wrap, IntKind.bits, IntKind.signed]; omega
      have X1 := Lib.hid x1'; have X2 := Lib.hid x2'; have X3 := Lib.hid x3'; clear x1' x2' x3'
      generalize hE2 : dtE xa xb xc xd xe xf xg xk Y = E2 at *
      have HE2 := Lib.hid hE2; clear hE2
      have hne : ((Y == xa) != (Y == xa)) = false := by simp
      have hmm : (ms != ms) = false := by simp
      go_upto_region 17 with (first
        | (go_at_call 22; refine (hex _ (i4.alloc _).1).mono ?_; rintro e w6 ⟨rfl, hb6⟩; have s6 := (s4.alloc _).below hb6 (by have := s4.lt; simp; omega); have i6 := (i4.alloc _).call hb6; clear hb6 s4 i4)
        | (go_at_call 23; refine (local_at (i6.alloc _).1 B1 X1.out X2.out).mono ?_; rintro e w7 ⟨rfl, hb7⟩; have s7 := (s6.alloc _).below hb7 (by have := s6.lt; simp; omega); have i7 := (i6.alloc _).call hb7; have x7 := (Blk.new w6 41 (stA xa xb xc xd xe xf xg xk)).below hb7 (by simp); have z0 := x7.cell 0; have z1 := x7.cell 1; have z2 := x7.cell 2; have z3 := x7.cell 3; have z4 := x7.cell 4; have z5 := x7.cell 5; have z6 := x7.cell 6; have z7 := x7.cell 7; have zl := x7.lt; simp at z0 z1 z2 z3 z4 z5 z6 z7; clear hb7 s6 i6)
        | (go_at_call 23; refine (local_at i7.1 B1 rfl HE2.out).mono ?_; rintro e w8 ⟨rfl, hb8⟩; have s8 := s7.below hb8 s7.lt; have i8 := i7.call hb8; have x8 := x7.below hb8 x7.lt; clear z0 z1 z2 z3 z4 z5 z6 z7 zl; have z0 := x8.cell 0; have z1 := x8.cell 1; have z2 := x8.cell 2; have z3 := x8.cell 3; have z4 := x8.cell 4; have z5 := x8.cell 5; have z6 := x8.cell 6; have z7 := x8.cell 7; have zl := x8.lt; simp at z0 z1 z2 z3 z4 z5 z6 z7; clear hb8 s7 i7 x7)
        | (go_at_call 24; refine (chk_at i8.1 B1 X3.out).mono ?_; rintro e w9 ⟨rfl, hb9⟩; have s9 := s8.below hb9 s8.lt; have i9 := i8.call hb9; have x9 := x8.below hb9 x8.lt; clear z0 z1 z2 z3 z4 z5 z6 z7 zl; have z0 := x9.cell 0; have z1 := x9.cell 1; have z2 := x9.cell 2; have z3 := x9.cell 3; have z4 := x9.cell 4; have z5 := x9.cell 5; have z6 := x9.cell 6; have z7 := x9.cell 7; have zl := x9.lt; simp at z0 z1 z2 z3 z4 z5 z6 z7; clear hb9 s8 i8 x8))
      clear z0 z1 z2 z3 z4 z5 z6 z7 zl
      clear x9 hne hmm hwa hex B1 X1 X2 X3 HE2 x4'
      have c0 := s9.cell 0; have c1 := s9.cell 1; have c2 := s9.cell 2; have c3 := s9.cell 3; have c4 := s9.cell 4; have c5 := s9.cell 5; have c6 := s9.cell 6; have c7 := s9.cell 7; have cl := s9.lt; simp at c0 c1 c2 c3 c4 c5 c6 c7
      by_cases he : dtE y m v d h i s u Y = 0
      · obtain ⟨n1, W1, D1, i1', s1', hex2, l1, l2, l3, l4, q1, q2, q3, q4⟩ := l_pack B he
        have hwY : IntKind.i64.wrap Y = Y := by simp [IntKind.wrap, IntKind.bits, IntKind.signed]; omega
        have hwm : IntKind.i64.wrap (m : Int) = (m : Int) := by have := B.m.2; simp [IntKind.wrap, IntKind.bits, IntKind.signed]; omega
        have hwD : IntKind.i64.wrap D1 = D1 := by simp [IntKind.wrap, IntKind.bits, IntKind.signed]; omega
        have HE := Lib.hid he; have L1 := Lib.hid l1; have L2 := Lib.hid l2; have L3 := Lib.hid l3; have L4 := Lib.hid l4
        clear he l1 l2 l3 l4 q1 q2 q3 q4 hr
        go_wp2_with (first
          | (go_at_call 23; refine (local_at i9.1 B L1.out HE.out).mono ?_; rintro e w20 ⟨rfl, hb20⟩; have s20 := s9.below hb20 (by have := s9.lt; simp; omega); have i20 := i9.call hb20; clear hb20 s9 i9; clear c0 c1 c2 c3 c4 c5 c6 c7 cl)
          | (go_at_call 22; refine (hex2 _ i20.1).mono ?_; rintro e w21 ⟨rfl, hb21⟩; have s21 := s20.below hb21 s20.lt; have i21 := i20.call hb21; clear hb21 s20 i20; have c0 := s21.cell 0; have c1 := s21.cell 1; have c2 := s21.cell 2; have c3 := s21.cell 3; have c4 := s21.cell 4; have c5 := s21.cell 5; have c6 := s21.cell 6; have c7 := s21.cell 7; have cl := s21.lt; simp at c0 c1 c2 c3 c4 c5 c6 c7)
          | (go_at_call 25; refine (date_at (i21.alloc _).1 B L2.out L3.out L4.out HE.out).mono ?_; rintro e w22 ⟨rfl, hb22⟩; have s22 := (s21.alloc _).below hb22 (by have := s21.lt; simp; omega); have i22 := (i21.alloc _).call hb22; have z22 := (Blk.new w21 41 (stA Y m W1 D1 h i1' s1' u)).below hb22 (by simp); clear c0 c1 c2 c3 c4 c5 c6 c7 cl; clear hb22 s21 i21; have c0 := s22.cell 0; have c1 := s22.cell 1; have c2 := s22.cell 2; have c3 := s22.cell 3; have c4 := s22.cell 4; have c5 := s22.cell 5; have c6 := s22.cell 6; have c7 := s22.cell 7; have cl := s22.lt; simp at c0 c1 c2 c3 c4 c5 c6 c7; have z0 := z22.cell 0; have z1 := z22.cell 1; have z2 := z22.cell 2; have z3 := z22.cell 3; have z4 := z22.cell 4; have z5 := z22.cell 5; have z6 := z22.cell 6; have z7 := z22.cell 7; have zl := z22.lt; simp at z0 z1 z2 z3 z4 z5 z6 z7))
        go_ret
        exact ⟨rfl, (i22.alloc _).2⟩
      · have l0 : lcV y m v d h i s u Y = 0 := by unfold lcV; rw [if_neg he]
        have heb : (dtE y m v d h i s u Y != 0) = true := by simp [he]
        clear he hr
        generalize hEE : dtE y m v d h i s u Y = E at *
        have HE := Lib.hid hEE; clear hEE
        go_wp2_with (go_at_call 23; refine (local_at i9.1 B l0 HE.out).mono ?_; rintro e w20 ⟨rfl, hb20⟩; have i20 := i9.call hb20; clear hb20)
        go_ret
        exact ⟨rfl, i20.2⟩
set_option maxRecDepth 100000 in
set_option maxHeartbeats 16000000 in
theorem back_big (y m v d h i s u : Int) (b : ByteArray) (ms Y : Int) (w : World) (hT : Tab w) (hb : 1000 < b.size) (hb2 : b.size ≤ 9223372036854775807) :
    Calls Tryd.prog 5 #[stV y m v d h i s u, .string b, .int .i64 ms, .int .i64 Y] w fun e w' => e = .returned (.bool true) ∧ Below w.heap.size w w' := by
  have i0 := Civ.Inv.start hT
  have hb' : (1000 : Int) < (b.size : Int) := by omega
  go_enter Tryd.func5, Tryd.ntmps5
  go_wp2_with (go_at_call 19; refine (lives_any _ (i0.alloc _).1).mono ?_; rintro e w1 ⟨rfl, hb1⟩; have i1 := (i0.alloc _).call hb1)
  go_ret
  exact ⟨rfl, i1.2⟩
theorem back_all (y m v d h i s u : Int) (b : ByteArray) (ms Y : Int) (w : World) (hT : Tab w) (B : Bd y m v d h i s u) (hr : -9223372036854775808 ≤ ms ∧ ms ≤ 9223372036854775807) (hb : b.size ≤ 9223372036854775807) :
    Calls Tryd.prog 5 #[stV y m v d h i s u, .string b, .int .i64 ms, .int .i64 Y] w fun e w' => e = .returned (.bool true) ∧ Below w.heap.size w w' := by
  by_cases hb1 : 1000 < b.size
  · exact back_big y m v d h i s u b ms Y w hT hb1 hb
  · obtain ⟨y, rfl⟩ := Int.eq_ofNat_of_zero_le B.y.1
    obtain ⟨m, rfl⟩ := Int.eq_ofNat_of_zero_le B.m.1
    obtain ⟨v, rfl⟩ := Int.eq_ofNat_of_zero_le B.v.1
    obtain ⟨d, rfl⟩ := Int.eq_ofNat_of_zero_le B.d.1
    obtain ⟨h, rfl⟩ := Int.eq_ofNat_of_zero_le B.h.1
    obtain ⟨i, rfl⟩ := Int.eq_ofNat_of_zero_le B.i.1
    obtain ⟨s, rfl⟩ := Int.eq_ofNat_of_zero_le B.s.1
    obtain ⟨u, rfl⟩ := Int.eq_ofNat_of_zero_le B.u.1
    exact back_any y m v d h i s u b ms Y w hT B hr (by omega)
end Go.Proofs.YtcjjgfejamddjaaDoor.Stp
