/-
  ABBR, WALKED: whether texts are of signs alone; a format in parts; right formats and letters.
-/
import Derived.Test.YtoklcbkphipmkaaDoorRows
import Derived.Test.YtoklcbkphipmkaaDoorWords
import Derived.Test.YtoklcbkphipmkaaDoorAbM
import Derived.WalkKit
import Derived.WalkSpells
import Derived.WalkLawsBesides
import Derived.Below
import Derived.ProofKit
import Derived.Outline
import Derived.Lib.Hide
import Derived.Lib.SmallJoins
namespace Go.Proofs.YtoklcbkphipmkaaDoor.Ab
open Go.ChangeShapes Go.WideShapes Go.ChangeAt Go.RowKit
open Go.Proofs.YtoklcbkphipmkaaDoor
open Go.Proofs.YtoklcbkphipmkaaDoor.Wd
set_option linter.unusedVariables false
abbrev L (s : ByteArray) : List UInt8 := s.data.toList
theorem L_len (s : ByteArray) : (L s).length = s.size := Array.length_toList
theorem L_mk (s : ByteArray) : (⟨(L s).toArray⟩ : ByteArray) = s := by cases s; rfl
theorem str_at {w : World} {B n k : Nat} {A : Option Addr} {xs : List ByteArray} (h : Reads w B 1 A n (xs.map Value.string)) (hk : k < n) (hl : k < xs.length) : ∃ ad, A = some ad ∧ w.cell? (ad.add k) = some (.string xs[k]) := by
  obtain ⟨ad, u, rfl, _, hu, hc⟩ := h.at_ hk
  simp [hl] at hu
  subst hu
  exact ⟨ad, rfl, hc⟩
theorem take_all {α : Type} {p : α → Bool} {l : List α} {k : Nat} (h : k < l.length) : (l.take (k + 1)).all p = ((l.take k).all p && p l[k]) := by
  rw [List.take_succ_eq_append_getElem h, List.all_append]; simp
theorem not_all {α : Type} {p : α → Bool} {l : List α} {k : Nat} (h : k < l.length) (hp : p l[k] = false) : l.all p = false := by
  rw [List.all_eq_false]; exact ⟨l[k], List.getElem_mem h, by simp [hp]⟩
theorem ret_bool {a b : Bool} (h : a = b) : Ending.returned (.bool a) = Ending.returned (.bool b) := by rw [h]
set_option maxRecDepth 20000 in
set_option maxHeartbeats 3200000 in
theorem signs_any (A : Option Addr) (n c B : Nat) (xs : List ByteArray) (w : World) (hr : Reads w B 1 A n (xs.map Value.string)) (hn : n ≤ 100) (hs : ∀ x ∈ xs, x.size ≤ 1000000) :
    Calls Tryd.prog 36 #[.slice A n c] w fun e w' => e = .returned (.bool (xs.all fun x => signsL (L x))) ∧ w' = w := by
  have hll : xs.length = n := by have := hr.1; simpa using this
  have HH := Lib.hid hs
  clear hs
  go_enter Tryd.func36, Tryd.ntmps36
  go_wp2
  go_loop [9] (fun i => ∃ k : Nat, i = .int .i64 k ∧ k ≤ n ∧ (xs.take k).all (fun x => signsL (L x)) = true) (fun i => n - (intOf i).toNat)
  case atStart => exact ⟨0, rfl, Nat.zero_le _, by simp⟩
  case round =>
    obtain ⟨k, rfl, hk, hal⟩ := hrel
    have HA := Lib.hid hal; clear hal
    by_cases hlt : k < n
    · have hlt' : (k : Int) < (n : Int) := by omega
      have hkl : k < xs.length := by omega
      obtain ⟨ad, rfl, hcell⟩ := str_at hr hlt hkl
      have hT := Lib.hid (take_all (p := fun x => signsL (L x)) hkl)
      have hN := Lib.hid (not_all (p := fun x => signsL (L x)) hkl)
      have hxs := HH.out _ (List.getElem_mem hkl)
      generalize xs[k] = x at *
      have HR := Lib.hid hr; clear hr
      go_wp2
      go_loop [15] (fun i => ∃ j : Nat, i = .int .i64 j ∧ j ≤ x.size ∧ ((L x).take j).all signB = true) (fun i => x.size - (intOf i).toNat)
      case atStart => exact ⟨0, rfl, Nat.zero_le _, by simp⟩
      case round =>
        obtain ⟨j, rfl, hj, hal⟩ := hrel
        have HB := Lib.hid hal; clear hal
        by_cases hjt : j < x.size
        · have hjt' : (j : Int) < (x.size : Int) := by omega
          have hjl : j < (L x).length := by rw [L_len]; exact hjt
          have hT2 := Lib.hid (take_all (p := signB) hjl)
          have hN2 := Lib.hid (not_all (p := signB) hjl)
          have hat : (L x)[j] = x[j] := rfl
          rw [hat] at hT2 hN2
          have h8 := x[j].toNat_lt
          cases hq : signB x[j] with
          | true =>
            have HQ := Lib.hid hq
            unfold signB at hq
            simp only [decide_eq_true_eq] at hq
            have hq' : ((97 : Int) ≤ (x[j].toNat : Int) ∧ (x[j].toNat : Int) ≤ 122) ∨ ((65 : Int) ≤ (x[j].toNat : Int) ∧ (x[j].toNat : Int) ≤ 90) ∨ ((48 : Int) ≤ (x[j].toNat : Int) ∧ (x[j].toNat : Int) ≤ 57) ∨ (x[j].toNat : Int) = 43 ∨ (x[j].toNat : Int) = 45 := by omega
            clear hq
            rcases hq' with ⟨e1, e2⟩ | ⟨e1, e2⟩ | ⟨e1, e2⟩ | e1 | e1
            all_goals
              go_wp2
              go_round
              case rel => exact ⟨j + 1, by go_num, by omega, by rw [hT2.out, HB.out, HQ.out]; rfl⟩
              case measure => simp [intOf]; omega
          | false =>
            have HQ := Lib.hid (show xs.all (fun x => signsL (L x)) = false from hN.out (hN2.out hq))
            unfold signB at hq
            simp only [decide_eq_false_iff_not] at hq
            have hq' : (x[j].toNat : Int) < 43 ∨ (x[j].toNat : Int) = 44 ∨ ((46 : Int) ≤ (x[j].toNat : Int) ∧ (x[j].toNat : Int) ≤ 47) ∨ ((58 : Int) ≤ (x[j].toNat : Int) ∧ (x[j].toNat : Int) ≤ 64) ∨ ((91 : Int) ≤ (x[j].toNat : Int) ∧ (x[j].toNat : Int) ≤ 96) ∨ (123 : Int) ≤ (x[j].toNat : Int) := by omega
            clear hq
            rcases hq' with e1 | e1 | ⟨e1, e2⟩ | ⟨e1, e2⟩ | ⟨e1, e2⟩ | e1
            all_goals
              have n1 : ((x[j].toNat : Int) == 43) = false := by rw [beq_eq_false_iff_ne]; omega
              have n2 : ((x[j].toNat : Int) == 45) = false := by rw [beq_eq_false_iff_ne]; omega
              go_wp2
              go_ret
              exact ⟨ret_bool HQ.out.symm, rfl⟩
        · obtain rfl : j = x.size := by omega
          have hjt' : ¬ (x.size : Int) < (x.size : Int) := by omega
          have hb := HB.out
          rw [List.take_of_length_le (by rw [L_len]; exact Nat.le_refl _)] at hb
          have HB2 := Lib.hid (show signsL (L x) = true from hb)
          clear hb
          go_wp2
          go_round
          case rel => exact ⟨k + 1, by go_num, by omega, by rw [hT.out, HA.out, HB2.out]; rfl⟩
          case measure => simp [intOf]; omega
    · obtain rfl : k = n := by omega
      have hlt' : ¬ (k : Int) < (k : Int) := by omega
      have hb := HA.out
      rw [List.take_of_length_le (by omega)] at hb
      have HB2 := Lib.hid hb
      clear hb
      go_wp2
      go_ret
      exact ⟨ret_bool HB2.out.symm, rfl⟩
theorem reads_two (w : World) (t : TypeId) (u v : Value) : Reads (w.alloc (.cells #[u, v] t)) (w.heap.size + 1) 1 (some ⟨w.heap.size, 0, none⟩) 2 [u, v] :=
  ⟨rfl, fun _ => ⟨_, rfl, Nat.lt_succ_self _, fun j x hx => by
    match j, hx with
    | 0, hx => simp at hx; subst hx; simp [Addr.add]
    | 1, hx => simp at hx; subst hx; simp [Addr.add]⟩⟩
theorem reads_one (w : World) (t : TypeId) (u : Value) : Reads (w.alloc (.cells #[u] t)) (w.heap.size + 1) 1 (some ⟨w.heap.size, 0, none⟩) 1 [u] :=
  ⟨rfl, fun _ => ⟨_, rfl, Nat.lt_succ_self _, fun j x hx => by
    match j, hx with
    | 0, hx => simp at hx; subst hx; simp [Addr.add]⟩⟩
theorem signs_two (a b : ByteArray) (t : TypeId) (w : World) (ha : a.size ≤ 1000000) (hb : b.size ≤ 1000000) :
    Calls Tryd.prog 36 #[.slice (some ⟨w.heap.size, 0, none⟩) 2 2] (w.alloc (.cells #[.string a, .string b] t)) fun e w' => e = .returned (.bool (signsL (L a) && signsL (L b))) ∧ w' = w.alloc (.cells #[.string a, .string b] t) :=
  (signs_any _ 2 2 (w.heap.size + 1) [a, b] _ (reads_two _ _ _ _) (by decide) (by simp [ha, hb])).mono fun e w' ⟨h1, h2⟩ => ⟨by rw [h1]; simp, h2⟩
theorem signs_one (a : ByteArray) (t : TypeId) (w : World) (ha : a.size ≤ 1000000) :
    Calls Tryd.prog 36 #[.slice (some ⟨w.heap.size, 0, none⟩) 1 1] (w.alloc (.cells #[.string a] t)) fun e w' => e = .returned (.bool (signsL (L a))) ∧ w' = w.alloc (.cells #[.string a] t) :=
  (signs_any _ 1 1 (w.heap.size + 1) [a] _ (reads_one _ _ _) (by decide) (by simp [ha])).mono fun e w' ⟨h1, h2⟩ => ⟨by rw [h1]; simp, h2⟩
end Go.Proofs.YtoklcbkphipmkaaDoor.Ab
