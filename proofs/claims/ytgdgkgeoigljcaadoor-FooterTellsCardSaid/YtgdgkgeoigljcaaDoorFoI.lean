/-
  The document's offsets and stamps, as texts: walked.
-/
import Derived.Test.YtgdgkgeoigljcaaDoorFoH
namespace Go.Proofs.YtgdgkgeoigljcaaDoor.Fo
open Go.ChangeShapes Go.WideShapes Go.ChangeAt Go.RowKit Go.Shelf
open Go.Proofs.YtgdgkgeoigljcaaDoor
open Go.Proofs.YtgdgkgeoigljcaaDoor.Wd
open Go.Proofs.YtgdgkgeoigljcaaDoor.Rec
set_option linter.unusedVariables false
set_option linter.unusedSimpArgs false
theorem app_emp (s : ByteArray) : s ++ (⟨#[]⟩ : ByteArray) = s := by apply ByteArray.ext; simp [ByteArray.data_append]
theorem emp_app (s : ByteArray) : (⟨#[]⟩ : ByteArray) ++ s = s := by apply ByteArray.ext; simp [ByteArray.data_append]
set_option maxRecDepth 20000 in
set_option maxHeartbeats 3200000 in
theorem roff_p0 (N : Nat) (w : World) (hN : 0 < N ∧ N ≤ 86400) (h60 : N % 60 = 0) (hm : N % 3600 / 60 = 0) : Calls Tryd.prog 24 #[.int .i64 (N : Int)] w fun e w' => e = .returned (.string (B (offT (N : Int)))) ∧ Below w.heap.size w w' := by
  obtain ⟨M, hM⟩ : ∃ M, N / 60 = M := ⟨_, rfl⟩
  obtain ⟨h, hh⟩ : ∃ h, M / 60 = h := ⟨_, rfl⟩
  obtain ⟨i, hi⟩ : ∃ i, M % 60 = i := ⟨_, rfl⟩
  have hh3 : N / 3600 = h := by omega
  have hi3 : N % 3600 / 60 = i := by omega
  have hMb : M ≤ 1440 := by omega
  have HR0 : B (offT (N : Int)) = ⟨#[45]⟩ ++ B (numT h) := by
    unfold offT
    rw [show ((N : Int)).natAbs = N by omega, hh3, hi3, if_pos (show (0 : Int) < (N : Int) by omega), if_pos (by omega)]
    apply ByteArray.ext; simp [ByteArray.data_append]
  have z1 : (B (numT h)).size ≤ 2 := by rw [B_len]; exact (num_len h).2
  have c1 := fun w => rnum40 (h : Int) w ⟨by omega, by omega⟩
  rw [Int.toNat_natCast] at c1
  have c2 := fun w => rtwo_any i w (by omega)
  have z2 : (B [UInt8.ofNat (48 + i / 10 % 10), UInt8.ofNat (48 + i % 10)]).size = 2 := rfl
  generalize B (numT h) = s1 at *
  generalize B [UInt8.ofNat (48 + i / 10 % 10), UInt8.ofNat (48 + i % 10)] = s2 at *
  have w1 : IntKind.i64.wrap (-(N : Int)) = -(N : Int) := by simp [IntKind.wrap, IntKind.bits, IntKind.signed]; omega
  have t0 : (N : Int).tdiv 60 = (M : Int) := by rw [← hM]; exact (tdm (n := N) (k := 60) (by decide)).1
  have t1 : (-(N : Int)).tdiv 60 = -(M : Int) := by rw [Int.neg_tdiv, t0]
  have w2 : IntKind.i64.wrap (-(M : Int)) = -(M : Int) := by simp [IntKind.wrap, IntKind.bits, IntKind.signed]; omega
  have w3 : IntKind.i64.wrap (- -(M : Int)) = (M : Int) := by simp [IntKind.wrap, IntKind.bits, IntKind.signed]; omega
  have g1 : -(M : Int) < 0 := by omega
  have t2 : (M : Int).tdiv 60 = (h : Int) := by rw [← hh]; exact (tdm (n := M) (k := 60) (by decide)).1
  have t3 : (M : Int).tmod 60 = (i : Int) := by rw [← hi]; exact (tdm (n := M) (k := 60) (by decide)).2
  have w4 : IntKind.i64.wrap (h : Int) = (h : Int) := by simp [IntKind.wrap, IntKind.bits, IntKind.signed]; omega
  have g2 : ¬ (0 : Int) < (i : Int) := by omega
  clear hM hh hi hh3 hi3 h60 hm hN
  have HR := Lib.hid HR0; clear HR0
  go_enter Tryd.func24, Tryd.ntmps24
  go_wp2_with fail
  refine (c1 _).mono ?_; rintro e W1 ⟨rfl, hb1⟩
  go_wp2_with fail
  go_ret
  exact ⟨by rw [HR.out]; rfl, hb1⟩
set_option maxRecDepth 20000 in
set_option maxHeartbeats 3200000 in
theorem roff_p1 (N : Nat) (w : World) (hN : 0 < N ∧ N ≤ 86400) (h60 : N % 60 = 0) (hm : ¬ N % 3600 / 60 = 0) : Calls Tryd.prog 24 #[.int .i64 (N : Int)] w fun e w' => e = .returned (.string (B (offT (N : Int)))) ∧ Below w.heap.size w w' := by
  obtain ⟨M, hM⟩ : ∃ M, N / 60 = M := ⟨_, rfl⟩
  obtain ⟨h, hh⟩ : ∃ h, M / 60 = h := ⟨_, rfl⟩
  obtain ⟨i, hi⟩ : ∃ i, M % 60 = i := ⟨_, rfl⟩
  have hh3 : N / 3600 = h := by omega
  have hi3 : N % 3600 / 60 = i := by omega
  have hMb : M ≤ 1440 := by omega
  have HR0 : B (offT (N : Int)) = ⟨#[45]⟩ ++ B (numT h) ++ (⟨#[58]⟩ ++ B [UInt8.ofNat (48 + i / 10 % 10), UInt8.ofNat (48 + i % 10)]) := by
    unfold offT
    rw [show ((N : Int)).natAbs = N by omega, hh3, hi3, if_pos (show (0 : Int) < (N : Int) by omega), if_neg (by omega)]
    apply ByteArray.ext; simp [ByteArray.data_append, twoT]
  have z1 : (B (numT h)).size ≤ 2 := by rw [B_len]; exact (num_len h).2
  have c1 := fun w => rnum40 (h : Int) w ⟨by omega, by omega⟩
  rw [Int.toNat_natCast] at c1
  have c2 := fun w => rtwo_any i w (by omega)
  have z2 : (B [UInt8.ofNat (48 + i / 10 % 10), UInt8.ofNat (48 + i % 10)]).size = 2 := rfl
  generalize B (numT h) = s1 at *
  generalize B [UInt8.ofNat (48 + i / 10 % 10), UInt8.ofNat (48 + i % 10)] = s2 at *
  have w1 : IntKind.i64.wrap (-(N : Int)) = -(N : Int) := by simp [IntKind.wrap, IntKind.bits, IntKind.signed]; omega
  have t0 : (N : Int).tdiv 60 = (M : Int) := by rw [← hM]; exact (tdm (n := N) (k := 60) (by decide)).1
  have t1 : (-(N : Int)).tdiv 60 = -(M : Int) := by rw [Int.neg_tdiv, t0]
  have w2 : IntKind.i64.wrap (-(M : Int)) = -(M : Int) := by simp [IntKind.wrap, IntKind.bits, IntKind.signed]; omega
  have w3 : IntKind.i64.wrap (- -(M : Int)) = (M : Int) := by simp [IntKind.wrap, IntKind.bits, IntKind.signed]; omega
  have g1 : -(M : Int) < 0 := by omega
  have t2 : (M : Int).tdiv 60 = (h : Int) := by rw [← hh]; exact (tdm (n := M) (k := 60) (by decide)).1
  have t3 : (M : Int).tmod 60 = (i : Int) := by rw [← hi]; exact (tdm (n := M) (k := 60) (by decide)).2
  have w4 : IntKind.i64.wrap (h : Int) = (h : Int) := by simp [IntKind.wrap, IntKind.bits, IntKind.signed]; omega
  have g2 : (0 : Int) < (i : Int) := by omega
  clear hM hh hi hh3 hi3 h60 hm hN
  have HR := Lib.hid HR0; clear HR0
  go_enter Tryd.func24, Tryd.ntmps24
  go_wp2_with fail
  refine (c1 _).mono ?_; rintro e W1 ⟨rfl, hb1⟩
  go_wp2_with fail
  refine (c2 _).mono ?_; rintro e W2 ⟨rfl, hb2⟩
  go_wp2_with fail
  go_ret
  exact ⟨by rw [HR.out]; rfl, hb1.trans (hb2.mono hb1.size)⟩
set_option maxRecDepth 20000 in
set_option maxHeartbeats 3200000 in
theorem roff_n0 (N : Nat) (w : World) (hN : N ≤ 86400) (h60 : N % 60 = 0) (hm : N % 3600 / 60 = 0) : Calls Tryd.prog 24 #[.int .i64 (-(N : Int))] w fun e w' => e = .returned (.string (B (offT (-(N : Int))))) ∧ Below w.heap.size w w' := by
  obtain ⟨M, hM⟩ : ∃ M, N / 60 = M := ⟨_, rfl⟩
  obtain ⟨h, hh⟩ : ∃ h, M / 60 = h := ⟨_, rfl⟩
  obtain ⟨i, hi⟩ : ∃ i, M % 60 = i := ⟨_, rfl⟩
  have hh3 : N / 3600 = h := by omega
  have hi3 : N % 3600 / 60 = i := by omega
  have hMb : M ≤ 1440 := by omega
  have HR0 : B (offT (-(N : Int))) = B (numT h) := by
    unfold offT
    rw [show ((-(N : Int))).natAbs = N by omega, hh3, hi3, if_neg (show ¬ (0 : Int) < -(N : Int) by omega), if_pos (by omega)]
    apply ByteArray.ext; simp [ByteArray.data_append]
  have z1 : (B (numT h)).size ≤ 2 := by rw [B_len]; exact (num_len h).2
  have c1 := fun w => rnum40 (h : Int) w ⟨by omega, by omega⟩
  rw [Int.toNat_natCast] at c1
  have c2 := fun w => rtwo_any i w (by omega)
  have z2 : (B [UInt8.ofNat (48 + i / 10 % 10), UInt8.ofNat (48 + i % 10)]).size = 2 := rfl
  generalize B (numT h) = s1 at *
  generalize B [UInt8.ofNat (48 + i / 10 % 10), UInt8.ofNat (48 + i % 10)] = s2 at *
  have w1 : IntKind.i64.wrap (-(-(N : Int))) = (N : Int) := by simp [IntKind.wrap, IntKind.bits, IntKind.signed]; omega
  have t0 : (N : Int).tdiv 60 = (M : Int) := by rw [← hM]; exact (tdm (n := N) (k := 60) (by decide)).1
  have w1b : IntKind.i64.wrap (N : Int) = (N : Int) := by simp [IntKind.wrap, IntKind.bits, IntKind.signed]; omega
  have w3 : IntKind.i64.wrap (M : Int) = (M : Int) := by simp [IntKind.wrap, IntKind.bits, IntKind.signed]; omega
  have g1 : ¬ (M : Int) < 0 := by omega
  have t2 : (M : Int).tdiv 60 = (h : Int) := by rw [← hh]; exact (tdm (n := M) (k := 60) (by decide)).1
  have t3 : (M : Int).tmod 60 = (i : Int) := by rw [← hi]; exact (tdm (n := M) (k := 60) (by decide)).2
  have w4 : IntKind.i64.wrap (h : Int) = (h : Int) := by simp [IntKind.wrap, IntKind.bits, IntKind.signed]; omega
  have g2 : ¬ (0 : Int) < (i : Int) := by omega
  clear hM hh hi hh3 hi3 h60 hm hN
  have HR := Lib.hid HR0; clear HR0
  go_enter Tryd.func24, Tryd.ntmps24
  go_wp2_with fail
  refine (c1 _).mono ?_; rintro e W1 ⟨rfl, hb1⟩
  go_wp2_with fail
  go_ret
  exact ⟨by rw [HR.out]; simp [emp_app], hb1⟩
set_option maxRecDepth 20000 in
set_option maxHeartbeats 3200000 in
theorem roff_n1 (N : Nat) (w : World) (hN : N ≤ 86400) (h60 : N % 60 = 0) (hm : ¬ N % 3600 / 60 = 0) : Calls Tryd.prog 24 #[.int .i64 (-(N : Int))] w fun e w' => e = .returned (.string (B (offT (-(N : Int))))) ∧ Below w.heap.size w w' := by
  obtain ⟨M, hM⟩ : ∃ M, N / 60 = M := ⟨_, rfl⟩
  obtain ⟨h, hh⟩ : ∃ h, M / 60 = h := ⟨_, rfl⟩
  obtain ⟨i, hi⟩ : ∃ i, M % 60 = i := ⟨_, rfl⟩
  have hh3 : N / 3600 = h := by omega
  have hi3 : N % 3600 / 60 = i := by omega
  have hMb : M ≤ 1440 := by omega
  have HR0 : B (offT (-(N : Int))) = B (numT h) ++ (⟨#[58]⟩ ++ B [UInt8.ofNat (48 + i / 10 % 10), UInt8.ofNat (48 + i % 10)]) := by
    unfold offT
    rw [show ((-(N : Int))).natAbs = N by omega, hh3, hi3, if_neg (show ¬ (0 : Int) < -(N : Int) by omega), if_neg (by omega)]
    apply ByteArray.ext; simp [ByteArray.data_append, twoT]
  have z1 : (B (numT h)).size ≤ 2 := by rw [B_len]; exact (num_len h).2
  have c1 := fun w => rnum40 (h : Int) w ⟨by omega, by omega⟩
  rw [Int.toNat_natCast] at c1
  have c2 := fun w => rtwo_any i w (by omega)
  have z2 : (B [UInt8.ofNat (48 + i / 10 % 10), UInt8.ofNat (48 + i % 10)]).size = 2 := rfl
  generalize B (numT h) = s1 at *
  generalize B [UInt8.ofNat (48 + i / 10 % 10), UInt8.ofNat (48 + i % 10)] = s2 at *
  have w1 : IntKind.i64.wrap (-(-(N : Int))) = (N : Int) := by simp [IntKind.wrap, IntKind.bits, IntKind.signed]; omega
  have t0 : (N : Int).tdiv 60 = (M : Int) := by rw [← hM]; exact (tdm (n := N) (k := 60) (by decide)).1
  have w1b : IntKind.i64.wrap (N : Int) = (N : Int) := by simp [IntKind.wrap, IntKind.bits, IntKind.signed]; omega
  have w3 : IntKind.i64.wrap (M : Int) = (M : Int) := by simp [IntKind.wrap, IntKind.bits, IntKind.signed]; omega
  have g1 : ¬ (M : Int) < 0 := by omega
  have t2 : (M : Int).tdiv 60 = (h : Int) := by rw [← hh]; exact (tdm (n := M) (k := 60) (by decide)).1
  have t3 : (M : Int).tmod 60 = (i : Int) := by rw [← hi]; exact (tdm (n := M) (k := 60) (by decide)).2
  have w4 : IntKind.i64.wrap (h : Int) = (h : Int) := by simp [IntKind.wrap, IntKind.bits, IntKind.signed]; omega
  have g2 : (0 : Int) < (i : Int) := by omega
  clear hM hh hi hh3 hi3 h60 hm hN
  have HR := Lib.hid HR0; clear HR0
  go_enter Tryd.func24, Tryd.ntmps24
  go_wp2_with fail
  refine (c1 _).mono ?_; rintro e W1 ⟨rfl, hb1⟩
  go_wp2_with fail
  refine (c2 _).mono ?_; rintro e W2 ⟨rfl, hb2⟩
  go_wp2_with fail
  go_ret
  exact ⟨by rw [HR.out]; simp [emp_app], hb1.trans (hb2.mono hb1.size)⟩
theorem roff40 (z : Int) (w : World) (hz : -86400 ≤ z ∧ z ≤ 86400) (hm : z % 60 = 0) : Calls Tryd.prog 24 #[.int .i64 z] w fun e w' => e = .returned (.string (B (offT z))) ∧ Below w.heap.size w w' := by
  by_cases h : 0 < z
  · obtain ⟨N, rfl⟩ : ∃ N : Nat, z = N := ⟨z.toNat, by omega⟩
    by_cases q : N % 3600 / 60 = 0
    · exact roff_p0 N w (by omega) (by omega) q
    · exact roff_p1 N w (by omega) (by omega) q
  · obtain ⟨N, rfl⟩ : ∃ N : Nat, z = -(N : Int) := ⟨(-z).toNat, by omega⟩
    by_cases q : N % 3600 / 60 = 0
    · exact roff_n0 N w (by omega) (by omega) q
    · exact roff_n1 N w (by omega) (by omega) q
end Go.Proofs.YtgdgkgeoigljcaaDoor.Fo
