/-
  TopClocks, WALKED.
-/
import Derived.Test.YtginidedeefcdaaDoorClkT
import Derived.Test.YtginidedeefcdaaDoorB4
namespace Go.Proofs.YtginidedeefcdaaDoor.Mo
open Go.ChangeShapes Go.WideShapes Go.ChangeAt Go.RowKit
open Go.Proofs.YtginidedeefcdaaDoor
open Go.Proofs.YtginidedeefcdaaDoor.Wd
open Go.Proofs.YtginidedeefcdaaDoor.Dy
open Go.Proofs.YtginidedeefcdaaDoor.Civ (Tab ret_bool)
open Go.Proofs.YtginidedeefcdaaDoor.Clk (atV atE at_any)
set_option linter.unusedVariables false
theorem not_empty {b : ByteArray} (h : 0 < b.size) : b.toList.isEmpty = false := by
  rw [Lib.toList_data]
  have : b.data.toList.length = b.size := by simp
  cases hl : b.data.toList with
  | nil => rw [hl] at this; simp at this; omega
  | cons a l => rfl
structure PT (w0 w : World) : Prop where
  t : Tab w
  p : Pts w
  b : Below w0.heap.size w0 w
theorem PT.call {w0 w w1 : World} (h : PT w0 w) (hb : Below w.heap.size w w1) : PT w0 w1 := ⟨h.t.below h.t.1 hb, h.p.below hb, h.b.trans (hb.mono h.b.size)⟩
theorem PT.alloc {w0 w : World} (h : PT w0 w) (o : Obj) : PT w0 (w.alloc o) := h.call ((Below.refl _ _).alloc (Nat.le_refl _) _)
theorem nom_0 {y m k n dw s c : Int} (h : nomE y m k n dw s c = 0) : inE k n dw y m = 0 ∧ atE (inV k n dw y m) s = 0 ∧ nomV y m k n dw s c = atV (inV k n dw y m) s := by
  refine ⟨?_, ?_, nomV_yes h⟩
  · unfold nomE at h; split at h
    · cases h
    · split at h
      · rename_i a b; exact absurd h b
      · rename_i a b; exact Classical.not_not.1 b
  · unfold nomE at h; split at h
    · cases h
    · split at h
      · rename_i a b; exact absurd h b
      · exact h
theorem at_bd {d s : Int} (h : atE d s = 0) : -1099511627776 ≤ atV d s ∧ atV d s ≤ 1099511627776 := by
  unfold Clk.atE at h
  unfold Clk.atV
  cases ho : Clk.atOk d s with
  | false => rw [ho] at h; cases h
  | true =>
    rw [if_pos rfl]
    unfold Clk.atOk Clk.okS at ho
    rw [Bool.and_eq_true, Cal.okN_iff, decide_eq_true_iff] at ho
    omega
theorem isTm_iff {s : Int} : isTm s = true ↔ -604800 ≤ s ∧ s ≤ 604800 := by unfold isTm; exact decide_eq_true_iff
set_option maxRecDepth 100000 in
set_option maxHeartbeats 3200000 in
theorem clocks_no1 (y m k n dw sec std east save N D : Int) (w : World) (hT : Tab w) (hP : Pts w)
    (hnom : ∀ W, Tab W → Calls Tryd.prog 30 #[.int .i64 y, .int .i64 m, dayV k n dw, momV sec 0] W fun e w' => e = .returned (.tuple #[.int .i64 N, .int .i64 0]) ∧ Below W.heap.size W w')
    (tstd : isTm std = false) :
    Calls Tryd.prog 8 #[.int .i64 y, .int .i64 m, dayV k n dw, .int .i64 sec, .int .i64 std, .int .i64 east, .int .i64 save] w fun e w' => e = .returned (.bool true) ∧ Below w.heap.size w w' := by
  have P0 : PT w (w.alloc (.cells #[.int .u8 k, .int .i64 n, .int .i64 dw] 56)) := PT.alloc ⟨hT, hP, Below.refl _ _⟩ _
  have z0 := Blk.new w 56 #[.int .u8 k, .int .i64 n, .int .i64 dw]
  go_enter Tryd.func8, Tryd.ntmps8
  go_wp2_with fail
  refine (Ab.begins4_any _).mono ?_; rintro e w1 ⟨rfl, hb1⟩
  have P1 := P0.call hb1
  have z1 := z0.below hb1 z0.lt
  go_wp2_with (first | refine Wd.wpList_row_g rfl 56 _ rfl _ rfl _ _ _ _ z1 Tryd.underlying56 rfl (by kernel_rfl) ?_)
  refine (hnom _ P1.t).mono ?_; rintro e w2 ⟨rfl, hb2⟩
  have P2 := P1.call hb2
  have z2 := z1.below hb2 z1.lt
  go_wp2_with fail
  refine (text_no tstd _).mono ?_; rintro e w3 ⟨rfl, rfl⟩
  go_wp2_with fail
  go_ret
  exact ⟨rfl, P2.b⟩
set_option maxRecDepth 100000 in
set_option maxHeartbeats 3200000 in
theorem clocks_no2 (y m k n dw sec std east save N D : Int) (w : World) (hT : Tab w) (hP : Pts w)
    (hnom : ∀ W, Tab W → Calls Tryd.prog 30 #[.int .i64 y, .int .i64 m, dayV k n dw, momV sec 0] W fun e w' => e = .returned (.tuple #[.int .i64 N, .int .i64 0]) ∧ Below W.heap.size W w')
    (tstd : isTm std = true) (teast : isTm east = false) :
    Calls Tryd.prog 8 #[.int .i64 y, .int .i64 m, dayV k n dw, .int .i64 sec, .int .i64 std, .int .i64 east, .int .i64 save] w fun e w' => e = .returned (.bool true) ∧ Below w.heap.size w w' := by
  have P0 : PT w (w.alloc (.cells #[.int .u8 k, .int .i64 n, .int .i64 dw] 56)) := PT.alloc ⟨hT, hP, Below.refl _ _⟩ _
  have z0 := Blk.new w 56 #[.int .u8 k, .int .i64 n, .int .i64 dw]
  go_enter Tryd.func8, Tryd.ntmps8
  go_wp2_with fail
  refine (Ab.begins4_any _).mono ?_; rintro e w1 ⟨rfl, hb1⟩
  have P1 := P0.call hb1
  have z1 := z0.below hb1 z0.lt
  go_wp2_with (first | refine Wd.wpList_row_g rfl 56 _ rfl _ rfl _ _ _ _ z1 Tryd.underlying56 rfl (by kernel_rfl) ?_)
  refine (hnom _ P1.t).mono ?_; rintro e w2 ⟨rfl, hb2⟩
  have P2 := P1.call hb2
  have z2 := z1.below hb2 z1.lt
  go_wp2_with fail
  refine (text_any std _ P2.p tstd).mono ?_; rintro e w3 ⟨b3, hp3, rfl, hb3⟩
  have e3 := not_empty hp3
  have P3 := P2.call hb3
  have z3 := z2.below hb3 z2.lt
  clear hp3
  go_wp2_with fail
  refine (text_no teast _).mono ?_; rintro e w4 ⟨rfl, rfl⟩
  go_wp2_with fail
  go_ret
  exact ⟨rfl, P3.b⟩
set_option maxRecDepth 100000 in
set_option maxHeartbeats 3200000 in
theorem clocks_no3 (y m k n dw sec std east save N D : Int) (w : World) (hT : Tab w) (hP : Pts w)
    (hnom : ∀ W, Tab W → Calls Tryd.prog 30 #[.int .i64 y, .int .i64 m, dayV k n dw, momV sec 0] W fun e w' => e = .returned (.tuple #[.int .i64 N, .int .i64 0]) ∧ Below W.heap.size W w')
    (tstd : isTm std = true) (teast : isTm east = true) (tsave : isTm save = false) :
    Calls Tryd.prog 8 #[.int .i64 y, .int .i64 m, dayV k n dw, .int .i64 sec, .int .i64 std, .int .i64 east, .int .i64 save] w fun e w' => e = .returned (.bool true) ∧ Below w.heap.size w w' := by
  have P0 : PT w (w.alloc (.cells #[.int .u8 k, .int .i64 n, .int .i64 dw] 56)) := PT.alloc ⟨hT, hP, Below.refl _ _⟩ _
  have z0 := Blk.new w 56 #[.int .u8 k, .int .i64 n, .int .i64 dw]
  go_enter Tryd.func8, Tryd.ntmps8
  go_wp2_with fail
  refine (Ab.begins4_any _).mono ?_; rintro e w1 ⟨rfl, hb1⟩
  have P1 := P0.call hb1
  have z1 := z0.below hb1 z0.lt
  go_wp2_with (first | refine Wd.wpList_row_g rfl 56 _ rfl _ rfl _ _ _ _ z1 Tryd.underlying56 rfl (by kernel_rfl) ?_)
  refine (hnom _ P1.t).mono ?_; rintro e w2 ⟨rfl, hb2⟩
  have P2 := P1.call hb2
  have z2 := z1.below hb2 z1.lt
  go_wp2_with fail
  refine (text_any std _ P2.p tstd).mono ?_; rintro e w3 ⟨b3, hp3, rfl, hb3⟩
  have e3 := not_empty hp3
  have P3 := P2.call hb3
  have z3 := z2.below hb3 z2.lt
  clear hp3
  go_wp2_with fail
  refine (text_any east _ P3.p teast).mono ?_; rintro e w4 ⟨b4, hp4, rfl, hb4⟩
  have e4 := not_empty hp4
  have P4 := P3.call hb4
  have z4 := z3.below hb4 z3.lt
  clear hp4
  go_wp2_with fail
  refine (text_no tsave _).mono ?_; rintro e w5 ⟨rfl, rfl⟩
  go_wp2_with fail
  go_ret
  exact ⟨rfl, P4.b⟩
set_option maxRecDepth 100000 in
set_option maxHeartbeats 3200000 in
theorem clocks_yes (y m k n dw sec std east save N D : Int) (w : World) (hT : Tab w) (hP : Pts w)
    (hnom : ∀ W, Tab W → Calls Tryd.prog 30 #[.int .i64 y, .int .i64 m, dayV k n dw, momV sec 0] W fun e w' => e = .returned (.tuple #[.int .i64 N, .int .i64 0]) ∧ Below W.heap.size W w')
    (hin : ∀ W, Tab W → Calls Tryd.prog 28 #[dayV k n dw, .int .i64 y, .int .i64 m] W fun e w' => e = .returned (.tuple #[.int .i64 D, .int .i64 0]) ∧ Below W.heap.size W w')
    (hat : ∀ W, Calls Tryd.prog 33 #[.int .i64 D, .int .i64 sec] W fun e w' => e = .returned (.tuple #[.int .i64 N, .int .i64 0]) ∧ Below W.heap.size W w')
    (N1 : -1099511627776 ≤ N) (N2 : N ≤ 1099511627776) (tstd : isTm std = true) (teast : isTm east = true) (tsave : isTm save = true) :
    Calls Tryd.prog 8 #[.int .i64 y, .int .i64 m, dayV k n dw, .int .i64 sec, .int .i64 std, .int .i64 east, .int .i64 save] w fun e w' => e = .returned (.bool true) ∧ Below w.heap.size w w' := by
  have P0 : PT w (w.alloc (.cells #[.int .u8 k, .int .i64 n, .int .i64 dw] 56)) := PT.alloc ⟨hT, hP, Below.refl _ _⟩ _
  have z0 := Blk.new w 56 #[.int .u8 k, .int .i64 n, .int .i64 dw]
  obtain ⟨s1, s2⟩ := isTm_iff.1 tstd
  obtain ⟨a1, a2⟩ := isTm_iff.1 teast
  obtain ⟨v1, v2⟩ := isTm_iff.1 tsave
  go_enter Tryd.func8, Tryd.ntmps8
  go_wp2_with fail
  refine (Ab.begins4_any _).mono ?_; rintro e w1 ⟨rfl, hb1⟩
  have P1 := P0.call hb1
  have z1 := z0.below hb1 z0.lt
  go_wp2_with (first | refine Wd.wpList_row_g rfl 56 _ rfl _ rfl _ _ _ _ z1 Tryd.underlying56 rfl (by kernel_rfl) ?_)
  refine (hnom _ P1.t).mono ?_; rintro e w2 ⟨rfl, hb2⟩
  have P2 := P1.call hb2
  have z2 := z1.below hb2 z1.lt
  go_wp2_with fail
  refine (text_any std _ P2.p tstd).mono ?_; rintro e w3 ⟨b3, hp3, rfl, hb3⟩
  have e3 := not_empty hp3
  have P3 := P2.call hb3
  have z3 := z2.below hb3 z2.lt
  clear hp3
  go_wp2_with fail
  refine (text_any east _ P3.p teast).mono ?_; rintro e w4 ⟨b4, hp4, rfl, hb4⟩
  have e4 := not_empty hp4
  have P4 := P3.call hb4
  have z4 := z3.below hb4 z3.lt
  clear hp4
  go_wp2_with fail
  refine (text_any save _ P4.p tsave).mono ?_; rintro e w5 ⟨b5, hp5, rfl, hb5⟩
  have e5 := not_empty hp5
  have P5 := P4.call hb5
  have z5 := z4.below hb5 z4.lt
  clear hp5
  clear tstd teast tsave z1 z2 z3 z4 P1 P2 P3 P4 hP hT
  go_wp2_with (first | refine Wd.wpList_row_g rfl 56 _ rfl _ rfl _ _ _ _ z5 Tryd.underlying56 rfl (by kernel_rfl) ?_)
  refine (hin _ P5.t).mono ?_; rintro e w6 ⟨rfl, hb6⟩
  have P6 := P5.call hb6
  go_wp2_with fail
  refine (Ab.instant_ok N 2 (std) (save) _ (by decide) (by omega) (by omega) (by omega)).mono ?_; rintro e wq ⟨rfl, rfl⟩
  simp only [show ¬ (2 : Int) = 0 by decide, show ¬ (2 : Int) = 1 by decide, if_false]
  go_wp2_with fail
  refine (Ab.instant_ok N 1 (std) (save) _ (by decide) (by omega) (by omega) (by omega)).mono ?_; rintro e wq ⟨rfl, rfl⟩
  simp only [show ¬ (1 : Int) = 0 by decide, if_false, if_true]
  go_wp2_with fail
  refine (Ab.instant_ok N 0 (std) (save) _ (by decide) (by omega) (by omega) (by omega)).mono ?_; rintro e wq ⟨rfl, rfl⟩
  simp only [if_true]
  go_wp2_with fail
  refine (Ab.instant_ok N 1 (std + east) (save) _ (by decide) (by omega) (by omega) (by omega)).mono ?_; rintro e wq ⟨rfl, rfl⟩
  simp only [show ¬ (1 : Int) = 0 by decide, if_false, if_true]
  go_wp2_with fail
  refine (Ab.instant_ok N 2 (std + east) (0) _ (by decide) (by omega) (by omega) (by omega)).mono ?_; rintro e wq ⟨rfl, rfl⟩
  simp only [show ¬ (2 : Int) = 0 by decide, show ¬ (2 : Int) = 1 by decide, if_false]
  go_wp2_with fail
  refine (hat _).mono ?_; rintro e w7 ⟨rfl, hb7⟩
  have P7 := P6.call hb7
  go_wp2_with fail
  go_ret
  exact ⟨ret_bool (by simp), P7.b⟩
set_option maxRecDepth 100000 in
set_option maxHeartbeats 3200000 in
theorem clocks_none (y m k n dw sec std east save : Int) (w : World) (hT : Tab w) (hP : Pts w) (hk : 0 ≤ k) (hn : nomE y m k n dw sec 0 ≠ 0) :
    Calls Tryd.prog 8 #[.int .i64 y, .int .i64 m, dayV k n dw, .int .i64 sec, .int .i64 std, .int .i64 east, .int .i64 save] w fun e w' => e = .returned (.bool true) ∧ Below w.heap.size w w' := by
  have P0 : PT w (w.alloc (.cells #[.int .u8 k, .int .i64 n, .int .i64 dw] 56)) := PT.alloc ⟨hT, hP, Below.refl _ _⟩ _
  have z0 := Blk.new w 56 #[.int .u8 k, .int .i64 n, .int .i64 dw]
  have hnom := fun W hT => nominal_any y m k n dw sec 0 W hT hk
  have hnb : (nomE y m k n dw sec 0 != 0) = true := by rw [bne_iff_ne]; exact hn
  clear hn
  go_enter Tryd.func8, Tryd.ntmps8
  go_wp2_with fail
  refine (Ab.begins4_any _).mono ?_; rintro e w1 ⟨rfl, hb1⟩
  have P1 := P0.call hb1
  have z1 := z0.below hb1 z0.lt
  go_wp2_with (first | refine Wd.wpList_row_g rfl 56 _ rfl _ rfl _ _ _ _ z1 Tryd.underlying56 rfl (by kernel_rfl) ?_)
  refine (hnom _ P1.t).mono ?_; rintro e w2 ⟨rfl, hb2⟩
  have P2 := P1.call hb2
  have z2 := z1.below hb2 z1.lt
  go_wp2_with fail
  go_ret
  exact ⟨rfl, P2.b⟩
theorem clocks_any (y m k n dw sec std east save : Int) (w : World) (hT : Tab w) (hP : Pts w) (hk : 0 ≤ k) :
    Calls Tryd.prog 8 #[.int .i64 y, .int .i64 m, dayV k n dw, .int .i64 sec, .int .i64 std, .int .i64 east, .int .i64 save] w fun e w' => e = .returned (.bool true) ∧ Below w.heap.size w w' := by
  by_cases hn : nomE y m k n dw sec 0 = 0
  · obtain ⟨n1, n2, n3⟩ := nom_0 hn
    have nb := at_bd n2
    rw [← n3] at nb
    have hnom := fun W hT => nominal_any y m k n dw sec 0 W hT hk
    have hin := fun W hT => in_any k n dw y m W hT hk
    have hat := fun W => at_any (inV k n dw y m) sec W
    simp only [hn] at hnom
    simp only [n1] at hin
    simp only [n2, ← n3] at hat
    cases tstd : isTm std with
    | false => exact clocks_no1 y m k n dw sec std east save _ 0 w hT hP hnom tstd
    | true =>
      cases teast : isTm east with
      | false => exact clocks_no2 y m k n dw sec std east save _ 0 w hT hP hnom tstd teast
      | true =>
        cases tsave : isTm save with
        | false => exact clocks_no3 y m k n dw sec std east save _ 0 w hT hP hnom tstd teast tsave
        | true => exact clocks_yes y m k n dw sec std east save _ _ w hT hP hnom hin hat nb.1 nb.2 tstd teast tsave
  · exact clocks_none y m k n dw sec std east save w hT hP hk hn
end Go.Proofs.YtginidedeefcdaaDoor.Mo
