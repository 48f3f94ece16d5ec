/-
  ABBR, WALKED: a format in parts; right formats; right letters.
-/
import Derived.Test.YtnoaeejdcdeanaaDoorAb1
namespace Go.Proofs.YtnoaeejdcdeanaaDoor.Ab
open Go.ChangeShapes Go.WideShapes Go.ChangeAt Go.RowKit
open Go.Proofs.YtnoaeejdcdeanaaDoor
open Go.Proofs.YtnoaeejdcdeanaaDoor.Wd
set_option linter.unusedVariables false
abbrev B (l : List UInt8) : ByteArray := ⟨l.toArray⟩
theorem ret4 {f a p z : List UInt8} {b : Bool} (h : cutV f = (a, p, z, b)) : Ending.returned (.tuple #[.string (B a), .string (B p), .string (B z), .bool b]) = Ending.returned (.tuple #[.string (B (cutV f).1), .string (B (cutV f).2.1), .string (B (cutV f).2.2.1), .bool (cutV f).2.2.2]) := by rw [h]
theorem empty_of (s : ByteArray) : s.toList.isEmpty = (L s).isEmpty := by rw [Lib.toList_data]
theorem nn {s : ByteArray} (h : (L s).isEmpty = false) : (!s.toList.isEmpty) = true := by rw [empty_of, h]; rfl
theorem ny {s : ByteArray} (h : (L s).isEmpty = true) : (!s.toList.isEmpty) = false := by rw [empty_of, h]; rfl
set_option maxRecDepth 20000 in
set_option maxHeartbeats 3200000 in
theorem cut_any (s : ByteArray) (w : World) (hT : Tb w) (hs : s.size ≤ 1000000) :
    Calls Tryd.prog 56 #[.string s] w fun e w' => e = .returned (.tuple #[.string (B (cutV (L s)).1), .string (B (cutV (L s)).2.1), .string (B (cutV (L s)).2.2.1), .bool (cutV (L s)).2.2.2]) ∧ Below w.heap.size w w' := by
  by_cases hz : s.size < 1 ∨ 32 < s.size
  · have HC := Lib.hid (show cutV (L s) = ([], [], [], false) by unfold cutV; rw [L_len, if_pos hz])
    rcases hz with hz | hz
    · have e1 : (s.size : Int) < 1 := by omega
      clear hz hs
      go_enter Tryd.func56, Tryd.ntmps56
      go_wp2
      exact bodyPost_ret (v := .tuple #[.string ⟨#[]⟩, .string ⟨#[]⟩, .string ⟨#[]⟩, .bool false]) (by simp [results, Tryd.results56, go_sem]) rfl ⟨ret4 HC.out, Below.refl _ _⟩
    · have e1 : ¬ (s.size : Int) < 1 := by omega
      have e2 : (32 : Int) < (s.size : Int) := by omega
      clear hz hs
      go_enter Tryd.func56, Tryd.ntmps56
      go_wp2
      exact bodyPost_ret (v := .tuple #[.string ⟨#[]⟩, .string ⟨#[]⟩, .string ⟨#[]⟩, .bool false]) (by simp [results, Tryd.results56, go_sem]) rfl ⟨ret4 HC.out, Below.refl _ _⟩
  · have e1 : ¬ (s.size : Int) < 1 := by omega
    have e2 : ¬ (32 : Int) < (s.size : Int) := by omega
    have HP := Lib.hid (show cutV (L s) = places (L s) by unfold cutV; rw [L_len, if_neg hz])
    clear hz
    have z0 := cut_sizes (L s) [37, 115]; have z1 := cut_sizes (L s) [37, 122]; have z2 := cut_sizes (L s) [47]
    rw [L_len] at z0 z1 z2
    have hc0 : ∀ w, Tb w → Calls Tryd.prog 60 #[.string s, .string ⟨#[37, 115]⟩] w fun e w' => e = .returned (.tuple #[.string (B (cutA (L s) [37, 115])), .string (B (cutZ (L s) [37, 115])), .bool (cutB (L s) [37, 115])]) ∧ ∃ n, w' = w.drewN n := fun w h => cutc s ⟨#[37, 115]⟩ w h hs
    have hc1 : ∀ w, Tb w → Calls Tryd.prog 60 #[.string s, .string ⟨#[37, 122]⟩] w fun e w' => e = .returned (.tuple #[.string (B (cutA (L s) [37, 122])), .string (B (cutZ (L s) [37, 122])), .bool (cutB (L s) [37, 122])]) ∧ ∃ n, w' = w.drewN n := fun w h => cutc s ⟨#[37, 122]⟩ w h hs
    have hc2 : ∀ w, Tb w → Calls Tryd.prog 60 #[.string s, .string ⟨#[47]⟩] w fun e w' => e = .returned (.tuple #[.string (B (cutA (L s) [47])), .string (B (cutZ (L s) [47])), .bool (cutB (L s) [47])]) ∧ ∃ n, w' = w.drewN n := fun w h => cutc s ⟨#[47]⟩ w h hs
    unfold places at HP
    generalize hA0 : B (cutA (L s) [37, 115]) = A0 at *
    generalize hZ0 : B (cutZ (L s) [37, 115]) = Z0 at *
    generalize hA1 : B (cutA (L s) [37, 122]) = A1 at *
    generalize hZ1 : B (cutZ (L s) [37, 122]) = Z1 at *
    generalize hA2 : B (cutA (L s) [47]) = A2 at *
    generalize hZ2 : B (cutZ (L s) [47]) = Z2 at *
    have lA0 : L A0 = cutA (L s) [37, 115] := by rw [← hA0]
    have lZ0 : L Z0 = cutZ (L s) [37, 115] := by rw [← hZ0]
    have lA1 : L A1 = cutA (L s) [37, 122] := by rw [← hA1]
    have lZ1 : L Z1 = cutZ (L s) [37, 122] := by rw [← hZ1]
    have lA2 : L A2 = cutA (L s) [47] := by rw [← hA2]
    have lZ2 : L Z2 = cutZ (L s) [47] := by rw [← hZ2]
    rw [← lA0, ← lZ0, ← lA1, ← lZ1, ← lA2, ← lZ2] at HP
    rw [← lA0, ← lZ0, L_len, L_len] at z0
    rw [← lA1, ← lZ1, L_len, L_len] at z1
    rw [← lA2, ← lZ2, L_len, L_len] at z2
    have y0 : A0.size ≤ 1000000 := by omega
    have y0' : Z0.size ≤ 1000000 := by omega
    have y1 : A1.size ≤ 1000000 := by omega
    have y1' : Z1.size ≤ 1000000 := by omega
    have y2 : A2.size ≤ 1000000 := by omega
    have y2' : Z2.size ≤ 1000000 := by omega
    have ret : ∀ (a p z : ByteArray) (b : Bool), cutV (L s) = (L a, L p, L z, b) → Ending.returned (.tuple #[.string a, .string p, .string z, .bool b]) = Ending.returned (.tuple #[.string (B (cutV (L s)).1), .string (B (cutV (L s)).2.1), .string (B (cutV (L s)).2.2.1), .bool (cutV (L s)).2.2.2]) := fun a p z b h => by
      rw [h]
    have RET := Lib.hid ret
    clear ret lA0 lZ0 lA1 lZ1 lA2 lZ2 hA0 hZ0 hA1 hZ1 hA2 hZ2 z0 z1 z2
    have hp0 := hT.p0; have hp1 := hT.p1
    have i0 : ∀ w, (Instr.index 124 (.agg #[.string ⟨#[37, 115]⟩, .string ⟨#[37, 122]⟩]) (.int .i64 0)).run Tryd.prog w = .ok (.string ⟨#[37, 115]⟩) w := fun _ => by kernel_rfl
    have i1 : ∀ w, (Instr.index 124 (.agg #[.string ⟨#[37, 115]⟩, .string ⟨#[37, 122]⟩]) (.int .i64 1)).run Tryd.prog w = .ok (.string ⟨#[37, 122]⟩) w := fun _ => by kernel_rfl
    go_enter Tryd.func56, Tryd.ntmps56
    go_wp2
    go_loopw [23] (fun i w' => ∃ n : Nat, (i = .int .i64 0 ∨ (i = .int .i64 1 ∧ cutB (L s) [37, 115] = false) ∨ (i = .int .i64 2 ∧ cutB (L s) [37, 115] = false ∧ cutB (L s) [37, 122] = false)) ∧ w' = w.drewN n) (fun i _ => 2 - (intOf i).toNat)
    case atStart => exact ⟨0, Or.inl rfl, rfl⟩
    case round =>
      obtain ⟨n, hk, rfl⟩ := hrel
      have hTn := hT.drewN n
      rcases hk with rfl | ⟨rfl, b0⟩ | ⟨rfl, b0, b1⟩
      · cases hB : cutB (L s) [37, 115] with
        | true =>
          have HB := Lib.hid hB; clear hB
          have HC := Lib.hid HP.out
          rw [HB.out, if_pos rfl] at HC
          go_wp2_with (first | (go_at_call 60; refine (hc0 _ hTn).mono ?_; rintro e w1 ⟨rfl, n1, rfl⟩; rw [HB.out]) | (go_at_call 46; refine (signs_two A0 Z0 _ _ y0 y0').mono ?_; rintro e w1 ⟨rfl, rfl⟩))
          exact bodyPost_ret (v := .tuple #[.string A0, .string ⟨#[37, 115]⟩, .string Z0, .bool (signsL (L A0) && signsL (L Z0))]) (by simp [results, Tryd.results56, go_sem]) rfl ⟨RET.out _ _ _ _ HC.out, (bdrewN (Below.refl _ _) _).alloc (Nat.le_refl _) _⟩
        | false =>
          have HB := Lib.hid hB; clear hB
          go_wp2_with (first | (go_at_call 60; refine (hc0 _ hTn).mono ?_; rintro e w1 ⟨rfl, n1, rfl⟩; rw [HB.out]))
          go_roundw
          case rel => exact ⟨n + n1, Or.inr (Or.inl ⟨rfl, trivial⟩), by simp [World.drewN]⟩
          case measure => simp [intOf]
      · have HB0 := Lib.hid b0
        clear b0
        cases hB : cutB (L s) [37, 122] with
        | true =>
          have HB := Lib.hid hB; clear hB
          have HC := Lib.hid HP.out
          rw [HB0.out, if_neg (by decide), HB.out, if_pos rfl] at HC
          go_wp2_with (first | (go_at_call 60; refine (hc1 _ hTn).mono ?_; rintro e w1 ⟨rfl, n1, rfl⟩; rw [HB.out]) | (go_at_call 46; refine (signs_two A1 Z1 _ _ y1 y1').mono ?_; rintro e w1 ⟨rfl, rfl⟩))
          exact bodyPost_ret (v := .tuple #[.string A1, .string ⟨#[37, 122]⟩, .string Z1, .bool (signsL (L A1) && signsL (L Z1))]) (by simp [results, Tryd.results56, go_sem]) rfl ⟨RET.out _ _ _ _ HC.out, (bdrewN (Below.refl _ _) _).alloc (Nat.le_refl _) _⟩
        | false =>
          have HB := Lib.hid hB; clear hB
          go_wp2_with (first | (go_at_call 60; refine (hc1 _ hTn).mono ?_; rintro e w1 ⟨rfl, n1, rfl⟩; rw [HB.out]))
          go_roundw
          case rel => exact ⟨n + n1, Or.inr (Or.inr ⟨rfl, HB0.out, trivial⟩), by simp [World.drewN]⟩
          case measure => simp [intOf]
      · have HB0 := Lib.hid b0; have HB1 := Lib.hid b1
        clear b0 b1
        have HC := Lib.hid HP.out
        rw [HB0.out, if_neg (by decide), HB1.out, if_neg (by decide)] at HC
        cases hB : cutB (L s) [47] with
        | true =>
          have HB := Lib.hid hB; clear hB
          rw [HB.out, if_pos rfl] at HC
          cases hA : (L A2).isEmpty with
          | true =>
            rw [hA] at HC
            have q1 : A2.toList.isEmpty = true := by rw [empty_of, hA]
            have q2 := ny hA
            clear hA
            go_wp2_with (first | (go_at_call 60; refine (hc2 _ hTn).mono ?_; rintro e w1 ⟨rfl, n1, rfl⟩; rw [HB.out]))
            exact bodyPost_ret (v := .tuple #[.string A2, .string ⟨#[47]⟩, .string Z2, .bool false]) (by simp [results, Tryd.results56, go_sem]) rfl ⟨RET.out _ _ _ _ HC.out, bdrewN (Below.refl _ _) _⟩
          | false =>
            have q1 : A2.toList.isEmpty = false := by rw [empty_of, hA]
            have q2 := nn hA
            cases hZ : (L Z2).isEmpty with
            | true =>
              rw [hA, hZ] at HC
              have q3 : Z2.toList.isEmpty = true := by rw [empty_of, hZ]
              have q4 := ny hZ
              clear hA hZ
              go_wp2_with (first | (go_at_call 60; refine (hc2 _ hTn).mono ?_; rintro e w1 ⟨rfl, n1, rfl⟩; rw [HB.out]))
              exact bodyPost_ret (v := .tuple #[.string A2, .string ⟨#[47]⟩, .string Z2, .bool false]) (by simp [results, Tryd.results56, go_sem]) rfl ⟨RET.out _ _ _ _ HC.out, bdrewN (Below.refl _ _) _⟩
            | false =>
              rw [hA, hZ] at HC
              have q3 : Z2.toList.isEmpty = false := by rw [empty_of, hZ]
              have q4 := nn hZ
              clear hA hZ
              go_wp2_with (first | (go_at_call 60; refine (hc2 _ hTn).mono ?_; rintro e w1 ⟨rfl, n1, rfl⟩; rw [HB.out]) | (go_at_call 46; refine (signs_two A2 Z2 _ _ y2 y2').mono ?_; rintro e w1 ⟨rfl, rfl⟩))
              exact bodyPost_ret (v := .tuple #[.string A2, .string ⟨#[47]⟩, .string Z2, .bool (signsL (L A2) && signsL (L Z2))]) (by simp [results, Tryd.results56, go_sem]) rfl ⟨RET.out _ _ _ _ HC.out, (bdrewN (Below.refl _ _) _).alloc (Nat.le_refl _) _⟩
        | false =>
          have HB := Lib.hid hB; clear hB
          rw [HB.out, if_neg (by decide)] at HC
          go_wp2_with (first | (go_at_call 60; refine (hc2 _ hTn).mono ?_; rintro e w1 ⟨rfl, n1, rfl⟩; rw [HB.out]) | (go_at_call 46; refine (signs_one s _ _ hs).mono ?_; rintro e w1 ⟨rfl, rfl⟩))
          exact bodyPost_ret (v := .tuple #[.string s, .string ⟨#[]⟩, .string ⟨#[]⟩, .bool (signsL (L s))]) (by simp [results, Tryd.results56, go_sem]) rfl ⟨RET.out _ _ _ _ HC.out, (bdrewN (Below.refl _ _) _).alloc (Nat.le_refl _) _⟩
def okE (b : Bool) : Int := if b = true then 0 else 2
theorem ret_ok {b : Bool} {n : Int} (h : n = okE b) : Ending.returned (.int .i64 n) = Ending.returned (.int .i64 (okE b)) := by rw [h]
set_option maxRecDepth 20000 in
set_option maxHeartbeats 1600000 in
theorem check_any (s : ByteArray) (w : World) (hT : Tb w) (hs : s.size ≤ 1000000) :
    Calls Tryd.prog 48 #[.string s] w fun e w' => e = .returned (.int .i64 (okE (chkB (L s)))) ∧ Below w.heap.size w w' := by
  have hc := cut_any s w hT hs
  rw [show (cutV (L s)).2.2.2 = chkB (L s) from rfl] at hc
  generalize B (cutV (L s)).1 = a1 at *
  generalize B (cutV (L s)).2.1 = a2 at *
  generalize B (cutV (L s)).2.2.1 = a3 at *
  cases hb : chkB (L s) with
  | true =>
    rw [hb] at hc
    clear hb hs
    go_enter Tryd.func48, Tryd.ntmps48
    go_wp2_with (go_at_call 56; refine hc.mono ?_; rintro e w1 ⟨rfl, hb1⟩)
    go_ret
    exact ⟨rfl, hb1⟩
  | false =>
    rw [hb] at hc
    clear hb hs
    go_enter Tryd.func48, Tryd.ntmps48
    go_wp2_with (go_at_call 56; refine hc.mono ?_; rintro e w1 ⟨rfl, hb1⟩)
    go_ret
    exact ⟨rfl, hb1⟩
theorem dash (s : ByteArray) : (s.toList == [45]) = (L s == [45]) := by rw [Lib.toList_data]
set_option maxRecDepth 20000 in
set_option maxHeartbeats 1600000 in
theorem letter_any (s : ByteArray) (w : World) (hs0 : s.size ≤ maxLen) :
    Calls Tryd.prog 38 #[.string s] w fun e w' => e = .returned (.int .i64 (okE (letB (L s)))) ∧ Below w.heap.size w w' := by
  by_cases h32 : 32 < s.size
  · have e1 : (32 : Int) < (s.size : Int) := by omega
    have HL := Lib.hid (show letB (L s) = false by unfold letB; rw [L_len, decide_eq_false (by omega)]; rfl)
    go_enter Tryd.func38, Tryd.ntmps38
    go_wp2
    go_ret
    exact ⟨ret_ok (by rw [HL.out]; rfl), Below.refl _ _⟩
  · have hs : s.size ≤ 1000000 := by omega
    have e1 : ¬ (32 : Int) < (s.size : Int) := by omega
    have HL0 := Lib.hid (show letB (L s) = (!(L s == [45]) && signsL (L s)) by unfold letB; rw [L_len, decide_eq_true (by omega)]; rfl)
    cases hd : (L s == [45]) with
    | true =>
      have HL := Lib.hid (show letB (L s) = false by rw [HL0.out, hd]; rfl)
      have q1 : (s.toList == [45]) = true := by rw [dash, hd]
      clear hd
      go_enter Tryd.func38, Tryd.ntmps38
      go_wp2
      go_ret
      exact ⟨ret_ok (by rw [HL.out]; rfl), Below.refl _ _⟩
    | false =>
      have HL := Lib.hid (show letB (L s) = signsL (L s) by rw [HL0.out, hd]; rfl)
      have q1 : (s.toList == [45]) = false := by rw [dash, hd]
      clear hd
      cases hg : signsL (L s) with
      | true =>
        have HG := Lib.hid hg; clear hg
        go_enter Tryd.func38, Tryd.ntmps38
        go_wp2_with (go_at_call 46; refine (signs_one s _ _ hs).mono ?_; rintro e w1 ⟨rfl, rfl⟩; rw [HG.out])
        go_ret
        exact ⟨ret_ok (by rw [HL.out, HG.out]; rfl), (Below.refl _ _).alloc (Nat.le_refl _) _⟩
      | false =>
        have HG := Lib.hid hg; clear hg
        go_enter Tryd.func38, Tryd.ntmps38
        go_wp2_with (go_at_call 46; refine (signs_one s _ _ hs).mono ?_; rintro e w1 ⟨rfl, rfl⟩; rw [HG.out])
        go_ret
        exact ⟨ret_ok (by rw [HL.out, HG.out]; rfl), (Below.refl _ _).alloc (Nat.le_refl _) _⟩
end Go.Proofs.YtnoaeejdcdeanaaDoor.Ab
