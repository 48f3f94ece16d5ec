/-
  THE FUNCTIONS OF utf, AND THE REFERENCE's, WALKED (2): the first character.
-/
import Derived.Test.YtmhchkhinjiebaaUtf
import Derived.Deep.QuietTactic
import Derived.BigQuiet
import Derived.Lib.Strings
import Derived.Lib.IndexBytes
namespace Go.Proofs.Ytmhchkhinjiebaa.Utf
open Go.ChangeShapes Go.WideShapes Go.ChangeAt Go.RowKit
set_option linter.unusedVariables false
theorem ret_two {a b c d : Int} (h : a = b) (h' : c = d) : Ending.returned (.tuple #[.int .i64 a, .int .i64 c]) = Ending.returned (.tuple #[.int .i64 b, .int .i64 d]) := by rw [h, h']
def L (t : ByteArray) : List UInt8 := t.data.toList
theorem L_len (t : ByteArray) : (L t).length = t.size := by unfold L; rw [Array.length_toList]; rfl
theorem encE_0 {v : Nat} (h : encE (v : Int) = 0) : val v = true := by
  unfold encE at h
  rw [valid_val] at h
  split at h
  · assumption
  · simp at h
theorem encS_L {v : Nat} (h : val v = true) : (encS (v : Int)).toList = enc v := by
  unfold encS
  rw [valid_val, if_pos h, Lib.toList_data, enc_utf8 v h]
theorem take_L (t : ByteArray) (n : Nat) : (t.extract 0 n).toList = (L t).take n := by
  rw [Lib.extract_toList]; simp [L]
/-- how the three ways end -/
theorem end_yes (t : ByteArray) (n : Nat) (v : Int) (h0 : 0 < t.size) (hn : nOf (L t) = n) (hv : (vOf (L t) : Int) = v) (hl : n ≤ t.size) (h1 : encE v = 0) (h2 : (!(encS v).toList == (t.extract 0 n).toList) = false) :
    v = (fC (L t) : Int) ∧ (n : Int) = (fN (L t) : Int) := by
  subst hv; subst hn
  have hv := encE_0 h1
  rw [encS_L hv, take_L] at h2
  have h3 : enc (vOf (L t)) = (L t).take (nOf (L t)) := by simpa using h2
  have := first_yes (L t) (by intro e; have := L_len t; rw [e] at this; simp at this; omega) hv h3 (by rw [L_len]; exact hl)
  rw [this.1, this.2]; exact ⟨rfl, rfl⟩
theorem end_no1 (t : ByteArray) (n : Nat) (v : Int) (hn : nOf (L t) = n) (hv : (vOf (L t) : Int) = v) (h1 : ¬ encE v = 0) : (0 : Int) = (fC (L t) : Int) ∧ (0 : Int) = (fN (L t) : Int) := by
  subst hv
  have := first_no (L t) (fun _ hv => by exfalso; apply h1; unfold encE; rw [valid_val, if_pos hv])
  rw [this.1, this.2]; exact ⟨rfl, rfl⟩
theorem end_no2 (t : ByteArray) (n : Nat) (v : Int) (hn : nOf (L t) = n) (hv : (vOf (L t) : Int) = v) (h2 : (!(encS v).toList == (t.extract 0 n).toList) = true) : (0 : Int) = (fC (L t) : Int) ∧ (0 : Int) = (fN (L t) : Int) := by
  subst hv; subst hn
  have := first_no (L t) (fun _ hv he => by rw [encS_L hv, take_L] at h2; simp [he] at h2)
  rw [this.1, this.2]; exact ⟨rfl, rfl⟩
theorem end_short (t : ByteArray) (h : t.size < nOf (L t)) : (0 : Int) = (fC (L t) : Int) ∧ (0 : Int) = (fN (L t) : Int) := by
  have := first_no (L t) (fun h' => by rw [L_len] at h'; omega)
  rw [this.1, this.2]; exact ⟨rfl, rfl⟩
theorem ends {t : ByteArray} {n : Nat} {v : Int} (h0 : 0 < t.size) (hn : nOf (L t) = n) (hv : (vOf (L t) : Int) = v) (hl : n ≤ t.size) (h1 : encE v = 0) : True := trivial
theorem ne_empty (t : ByteArray) (h : 0 < t.size) : t.toList.isEmpty = false := by
  rw [Lib.toList_data]
  have := L_len t
  unfold L at this
  cases e : t.data.toList with
  | nil => rw [e] at this; simp at this; omega
  | cons a l => rfl
theorem byte_bd (t : ByteArray) (k : Nat) (h : k < t.size) : 0 ≤ ((t[k]'h).toNat : Int) ∧ ((t[k]'h).toNat : Int) < 256 := by
  have := (t[k]'h).toNat_lt; omega
theorem bdrewN {B : Nat} {a w : World} (h : Below B a w) (n : Nat) : Below B a (w.drewN n) := ⟨h.os, h.tape, h.output, h.size, h.block⟩
theorem encE_01 (v : Int) : encE v = 0 ∨ encE v = 1 := by unfold encE; split <;> simp
set_option maxHeartbeats 1600000 in
theorem first_1 (t : ByteArray) (w : World) (hp0 : 0 < t.size) (x : Int) (E0 : ((t[0]'(hp0)).toNat : Int) = x) (b1 : x < 192) (b0 : 0 ≤ x) (hn : nOf (L t) = 1) (hv : (vOf (L t) : Int) = x) :
    Calls Try.prog 16 #[.string t] w fun e w' => e = .returned (.tuple #[.int .i64 (fC (L t)), .int .i64 (fN (L t))]) ∧ Below w.heap.size w w' := by
  have hz := ne_empty t hp0
  have hp : (0 : Int) < (t.size : Int) := by omega
  have Y := Lib.hid (end_yes t 1 x hp0 hn hv (by omega))
  have N1 := Lib.hid (end_no1 t 1 x hn hv)
  have N2 := Lib.hid (end_no2 t 1 x hn hv)
  clear hn hv
  go_enter Try.func16, Try.ntmps16
  go_wp2_with fail
  go_quiet (fail)
  go_wp2_with fail
  refine wp_loop_rounds 1 ?_
  rw [rounds_succ]
  go_wp2_with fail
  refine (renc_any _ _).mono ?_; rintro e w1 ⟨rfl, hb1⟩
  have hb : Below w.heap.size w w1 := (bdrewN (Below.refl _ _) _).trans hb1
  go_wp2_with fail
  all_goals go_ret2
  all_goals first | exact ⟨ret_two (N1.out (by assumption)).1 (N1.out (by assumption)).2, hb⟩ | exact ⟨ret_two (N2.out (by assumption)).1 (N2.out (by assumption)).2, hb⟩ | exact ⟨ret_two (Y.out (by assumption) (by assumption)).1 (Y.out (by assumption) (by assumption)).2, hb⟩
set_option maxHeartbeats 4000000 in
theorem first_2 (t : ByteArray) (w : World) (hp0 : 0 < t.size) (hp1 : 1 < t.size) (x y : Int) (E0 : ((t[0]'(hp0)).toNat : Int) = x) (E1 : ((t[1]'(hp1)).toNat : Int) = y) (b0 : 192 ≤ x) (b1 : x < 224) (c1 : 0 ≤ y) (d1 : y < 256) (hn : nOf (L t) = 2) (hv : (vOf (L t) : Int) = 64 * (x - 192) + y % 64) :
    Calls Try.prog 16 #[.string t] w fun e w' => e = .returned (.tuple #[.int .i64 (fC (L t)), .int .i64 (fN (L t))]) ∧ Below w.heap.size w w' := by
  have hz := ne_empty t hp0
  have hp : (2 : Int) ≤ (t.size : Int) := by omega
  have Y := Lib.hid (end_yes t 2 _ hp0 hn hv (by omega))
  have N1 := Lib.hid (end_no1 t 2 _ hn hv)
  have N2 := Lib.hid (end_no2 t 2 _ hn hv)
  clear hn hv
  go_enter Try.func16, Try.ntmps16
  go_wp2_with fail
  go_quiet (fail)
  go_wp2_with fail
  refine wp_loop_rounds 2 ?_
  rw [rounds_succ]
  go_wp2_with fail
  rw [rounds_succ]
  go_wp2_with fail
  refine (renc_any _ _).mono ?_; rintro e w1 ⟨rfl, hb1⟩
  have hb : Below w.heap.size w w1 := (bdrewN (Below.refl _ _) _).trans hb1
  go_wp2_with fail
  all_goals go_ret2
  all_goals first | exact ⟨ret_two (N1.out (by assumption)).1 (N1.out (by assumption)).2, hb⟩ | exact ⟨ret_two (N2.out (by assumption)).1 (N2.out (by assumption)).2, hb⟩ | exact ⟨ret_two (Y.out (by assumption) (by assumption)).1 (Y.out (by assumption) (by assumption)).2, hb⟩
/-- too short -/
theorem short_2 (t : ByteArray) (w : World) (hp0 : 0 < t.size) (x : Int) (E0 : ((t[0]'(hp0)).toNat : Int) = x) (b0 : 192 ≤ x) (b1 : x < 224) (hn : nOf (L t) = 2) (hs : t.size < 2) :
    Calls Try.prog 16 #[.string t] w fun e w' => e = .returned (.tuple #[.int .i64 (fC (L t)), .int .i64 (fN (L t))]) ∧ Below w.heap.size w w' := by
  have hz := ne_empty t hp0
  have hp : (0 : Int) < (t.size : Int) := by omega
  have N := Lib.hid (end_short t (by omega))
  clear hn
  have hs' : (t.size : Int) < 2 := by omega
  go_enter Try.func16, Try.ntmps16
  go_wp2_with fail
  go_quiet (fail)
  go_wp2_with fail
  go_ret2
  exact ⟨ret_two N.out.1 N.out.2, bdrewN (Below.refl _ _) _⟩
set_option maxHeartbeats 4000000 in
theorem first_3 (t : ByteArray) (w : World) (hp0 : 0 < t.size) (hp1 : 1 < t.size) (hp2 : 2 < t.size) (x y z : Int) (E0 : ((t[0]'(hp0)).toNat : Int) = x) (E1 : ((t[1]'(hp1)).toNat : Int) = y) (E2 : ((t[2]'(hp2)).toNat : Int) = z) (b0 : 224 ≤ x) (b1 : x < 240) (c1 : 0 ≤ y) (d1 : y < 256) (c2 : 0 ≤ z) (d2 : z < 256) (hn : nOf (L t) = 3) (hv : (vOf (L t) : Int) = 64 * (64 * (x - 224) + y % 64) + z % 64) :
    Calls Try.prog 16 #[.string t] w fun e w' => e = .returned (.tuple #[.int .i64 (fC (L t)), .int .i64 (fN (L t))]) ∧ Below w.heap.size w w' := by
  have hz := ne_empty t hp0
  have hp : (3 : Int) ≤ (t.size : Int) := by omega
  have Y := Lib.hid (end_yes t 3 _ hp0 hn hv (by omega))
  have N1 := Lib.hid (end_no1 t 3 _ hn hv)
  have N2 := Lib.hid (end_no2 t 3 _ hn hv)
  clear hn hv
  go_enter Try.func16, Try.ntmps16
  go_wp2_with fail
  go_quiet (fail)
  go_wp2_with fail
  refine wp_loop_rounds 3 ?_
  rw [rounds_succ]
  go_wp2_with fail
  rw [rounds_succ]
  go_wp2_with fail
  rw [rounds_succ]
  go_wp2_with fail
  refine (renc_any _ _).mono ?_; rintro e w1 ⟨rfl, hb1⟩
  have hb : Below w.heap.size w w1 := (bdrewN (Below.refl _ _) _).trans hb1
  go_wp2_with fail
  all_goals go_ret2
  all_goals first | exact ⟨ret_two (N1.out (by assumption)).1 (N1.out (by assumption)).2, hb⟩ | exact ⟨ret_two (N2.out (by assumption)).1 (N2.out (by assumption)).2, hb⟩ | exact ⟨ret_two (Y.out (by assumption) (by assumption)).1 (Y.out (by assumption) (by assumption)).2, hb⟩
/-- too short -/
theorem short_3 (t : ByteArray) (w : World) (hp0 : 0 < t.size) (x : Int) (E0 : ((t[0]'(hp0)).toNat : Int) = x) (b0 : 224 ≤ x) (b1 : x < 240) (hn : nOf (L t) = 3) (hs : t.size < 3) :
    Calls Try.prog 16 #[.string t] w fun e w' => e = .returned (.tuple #[.int .i64 (fC (L t)), .int .i64 (fN (L t))]) ∧ Below w.heap.size w w' := by
  have hz := ne_empty t hp0
  have hp : (0 : Int) < (t.size : Int) := by omega
  have N := Lib.hid (end_short t (by omega))
  clear hn
  have hs' : (t.size : Int) < 3 := by omega
  go_enter Try.func16, Try.ntmps16
  go_wp2_with fail
  go_quiet (fail)
  go_wp2_with fail
  go_ret2
  exact ⟨ret_two N.out.1 N.out.2, bdrewN (Below.refl _ _) _⟩
set_option maxHeartbeats 4000000 in
theorem first_4 (t : ByteArray) (w : World) (hp0 : 0 < t.size) (hp1 : 1 < t.size) (hp2 : 2 < t.size) (hp3 : 3 < t.size) (x y z u : Int) (E0 : ((t[0]'(hp0)).toNat : Int) = x) (E1 : ((t[1]'(hp1)).toNat : Int) = y) (E2 : ((t[2]'(hp2)).toNat : Int) = z) (E3 : ((t[3]'(hp3)).toNat : Int) = u) (b0 : 240 ≤ x) (b1 : x < 256) (c1 : 0 ≤ y) (d1 : y < 256) (c2 : 0 ≤ z) (d2 : z < 256) (c3 : 0 ≤ u) (d3 : u < 256) (hn : nOf (L t) = 4) (hv : (vOf (L t) : Int) = 64 * (64 * (64 * (x - 240) + y % 64) + z % 64) + u % 64) :
    Calls Try.prog 16 #[.string t] w fun e w' => e = .returned (.tuple #[.int .i64 (fC (L t)), .int .i64 (fN (L t))]) ∧ Below w.heap.size w w' := by
  have hz := ne_empty t hp0
  have hp : (4 : Int) ≤ (t.size : Int) := by omega
  have Y := Lib.hid (end_yes t 4 _ hp0 hn hv (by omega))
  have N1 := Lib.hid (end_no1 t 4 _ hn hv)
  have N2 := Lib.hid (end_no2 t 4 _ hn hv)
  clear hn hv
  go_enter Try.func16, Try.ntmps16
  go_wp2_with fail
  go_quiet (fail)
  go_wp2_with fail
  refine wp_loop_rounds 4 ?_
  rw [rounds_succ]
  go_wp2_with fail
  rw [rounds_succ]
  go_wp2_with fail
  rw [rounds_succ]
  go_wp2_with fail
  rw [rounds_succ]
  go_wp2_with fail
  refine (renc_any _ _).mono ?_; rintro e w1 ⟨rfl, hb1⟩
  have hb : Below w.heap.size w w1 := (bdrewN (Below.refl _ _) _).trans hb1
  go_wp2_with fail
  all_goals go_ret2
  all_goals first | exact ⟨ret_two (N1.out (by assumption)).1 (N1.out (by assumption)).2, hb⟩ | exact ⟨ret_two (N2.out (by assumption)).1 (N2.out (by assumption)).2, hb⟩ | exact ⟨ret_two (Y.out (by assumption) (by assumption)).1 (Y.out (by assumption) (by assumption)).2, hb⟩
/-- too short -/
theorem short_4 (t : ByteArray) (w : World) (hp0 : 0 < t.size) (x : Int) (E0 : ((t[0]'(hp0)).toNat : Int) = x) (b0 : 240 ≤ x) (b1 : x < 256) (hn : nOf (L t) = 4) (hs : t.size < 4) :
    Calls Try.prog 16 #[.string t] w fun e w' => e = .returned (.tuple #[.int .i64 (fC (L t)), .int .i64 (fN (L t))]) ∧ Below w.heap.size w w' := by
  have hz := ne_empty t hp0
  have hp : (0 : Int) < (t.size : Int) := by omega
  have N := Lib.hid (end_short t (by omega))
  clear hn
  have hs' : (t.size : Int) < 4 := by omega
  go_enter Try.func16, Try.ntmps16
  go_wp2_with fail
  go_quiet (fail)
  go_wp2_with fail
  go_ret2
  exact ⟨ret_two N.out.1 N.out.2, bdrewN (Below.refl _ _) _⟩

theorem first_0 (t : ByteArray) (w : World) (h : t.size = 0) :
    Calls Try.prog 16 #[.string t] w fun e w' => e = .returned (.tuple #[.int .i64 (fC (L t)), .int .i64 (fN (L t))]) ∧ Below w.heap.size w w' := by
  have hl : L t = [] := List.eq_nil_of_length_eq_zero (by rw [L_len]; exact h)
  have hz : t.toList.isEmpty = true := by rw [Lib.toList_data]; show (L t).isEmpty = true; rw [hl]; rfl
  have N : (0 : Int) = (fC (L t) : Int) ∧ (0 : Int) = (fN (L t) : Int) := by rw [hl]; exact ⟨rfl, rfl⟩
  have N' := Lib.hid N; clear N h hl
  go_enter Try.func16, Try.ntmps16
  go_wp2_with fail
  go_ret2
  exact ⟨ret_two N'.out.1 N'.out.2, Below.refl _ _⟩
theorem first_any (t : ByteArray) (w : World) :
    Calls Try.prog 16 #[.string t] w fun e w' => e = .returned (.tuple #[.int .i64 (fC (L t)), .int .i64 (fN (L t))]) ∧ Below w.heap.size w w' := by
  by_cases h : t.size = 0
  · exact first_0 t w h
  · have h0 : 0 < t.size := by omega
    have g0 := bt_get t 0 h0
    have l0 := (t[0]'h0).toNat_lt
    by_cases c1 : (t[0]'h0).toNat < 192
    · refine first_1 t w h0 _ rfl (by omega) (by omega) ?_ ?_
      · show nOf t.data.toList = 1
        unfold nOf; rw [g0, if_neg (by omega), if_neg (by omega), if_neg (by omega)]
      · show (vOf t.data.toList : Int) = _
        unfold vOf; rw [g0, if_neg (by omega), if_neg (by omega), if_neg (by omega)]
    · by_cases c2 : (t[0]'h0).toNat < 224
      · have hn : nOf (L t) = 2 := by show nOf t.data.toList = 2; unfold nOf; rw [g0, if_neg (by omega), if_neg (by omega), if_pos (by omega)]
        by_cases hs : t.size < 2
        · exact short_2 t w h0 _ rfl (by omega) (by omega) hn hs
        · have g1 := bt_get t 1 (by omega)
          have l1 := (t[1]'(by omega)).toNat_lt
          refine first_2 t w h0 (by omega) _ _ rfl rfl (by omega) (by omega) (by omega) (by omega) hn ?_
          show (vOf t.data.toList : Int) = _
          unfold vOf; rw [g0, g1, if_neg (by omega), if_neg (by omega), if_pos (by omega)]; omega
      · by_cases c3 : (t[0]'h0).toNat < 240
        · have hn : nOf (L t) = 3 := by show nOf t.data.toList = 3; unfold nOf; rw [g0, if_neg (by omega), if_pos (by omega)]
          by_cases hs : t.size < 3
          · exact short_3 t w h0 _ rfl (by omega) (by omega) hn hs
          · have g1 := bt_get t 1 (by omega)
            have g2 := bt_get t 2 (by omega)
            have l1 := (t[1]'(by omega)).toNat_lt
            have l2 := (t[2]'(by omega)).toNat_lt
            refine first_3 t w h0 (by omega) (by omega) _ _ _ rfl rfl rfl (by omega) (by omega) (by omega) (by omega) (by omega) (by omega) hn ?_
            show (vOf t.data.toList : Int) = _
            unfold vOf; rw [g0, g1, g2, if_neg (by omega), if_pos (by omega)]; omega
        · have hn : nOf (L t) = 4 := by show nOf t.data.toList = 4; unfold nOf; rw [g0, if_pos (by omega)]
          by_cases hs : t.size < 4
          · exact short_4 t w h0 _ rfl (by omega) (by omega) hn hs
          · have g1 := bt_get t 1 (by omega)
            have g2 := bt_get t 2 (by omega)
            have g3 := bt_get t 3 (by omega)
            have l1 := (t[1]'(by omega)).toNat_lt
            have l2 := (t[2]'(by omega)).toNat_lt
            have l3 := (t[3]'(by omega)).toNat_lt
            refine first_4 t w h0 (by omega) (by omega) (by omega) _ _ _ _ rfl rfl rfl rfl (by omega) (by omega) (by omega) (by omega) (by omega) (by omega) (by omega) (by omega) hn ?_
            show (vOf t.data.toList : Int) = _
            unfold vOf; rw [g0, g1, g2, g3, if_pos (by omega)]; omega
end Go.Proofs.Ytmhchkhinjiebaa.Utf
