/-
  NUMBERS AS BYTES, ONE BEHIND THE OTHER, PLAIN: what is put is what is got.
-/
import Derived.Test.YtcjjgfejamddjaaDoorLitR
namespace Go.Proofs.YtcjjgfejamddjaaDoor.Lit
open Go
open Go.Proofs.YtcjjgfejamddjaaDoor
set_option linter.unusedVariables false
abbrev LB (s : ByteArray) : List UInt8 := s.data.toList
theorem LB_len (s : ByteArray) : (LB s).length = s.size := Array.length_toList
def encN (N : Nat) (l : List Nat) : List UInt8 := l.flatMap fun n => putN n N
theorem encN_len (N : Nat) (l : List Nat) : (encN N l).length = N * l.length := by
  induction l with
  | nil => rfl
  | cons a t ih =>
    have e : encN N (a :: t) = putN a N ++ encN N t := rfl
    rw [e, List.length_append, ih, putN_len, List.length_cons, Nat.mul_add]; omega
theorem encN_take {N : Nat} {l : List Nat} {k : Nat} (h : k < l.length) : encN N (l.take (k + 1)) = encN N (l.take k) ++ putN l[k] N := by
  rw [List.take_succ_eq_append_getElem h]
  show (l.take k ++ [l[k]]).flatMap _ = _
  rw [List.flatMap_append]
  show _ ++ [l[k]].flatMap _ = _
  rw [List.flatMap_singleton]
  rfl
theorem encN_drop {N : Nat} {l : List Nat} {k : Nat} (h : k < l.length) : encN N (l.drop k) = putN l[k] N ++ encN N (l.drop (k + 1)) := by
  rw [List.drop_eq_getElem_cons h]; rfl
theorem leN_put (n k : Nat) : leN (putN n k) = n % 256 ^ k := by
  induction k with
  | zero => simp [putN, leN, Nat.mod_one]
  | succ k ih =>
    rw [putN_succ, leN_app, ih, putN_len]
    have e : (byteN n k).toNat = n / 256 ^ k % 256 := by
      unfold byteN
      rw [show (256 : Nat) ^ k = 2 ^ (8 * k) by rw [Nat.pow_mul]]
      simp
    simp only [leN, Nat.mul_zero, Nat.add_zero]
    rw [e, Nat.pow_succ, Nat.mod_mul]
theorem LB_ext (s : ByteArray) (a b : Nat) : LB (s.extract a b) = ((LB s).take b).drop a := by
  unfold LB; rw [ByteArray.data_extract, Array.toList_extract, List.extract_eq_take_drop]
  rw [List.drop_take]
theorem gd_next {x : ByteArray} {a r : List UInt8} {n : Int} (hx : LB x = a ++ r) (ha : (a.length : Int) = n) (h1 : 1 ≤ n) (h8 : n ≤ 8) :
    tkO x false (getW n) = true ∧ LB (tkS x false (getW n)) = r ∧ getV x false n = leN a := by
  obtain ⟨N, rfl⟩ : ∃ N : Nat, n = (N : Int) := ⟨n.toNat, by omega⟩
  have ha : a.length = N := by omega
  have hg : getW (N : Int) = N := by unfold getW; rw [if_pos ⟨by omega, by omega⟩]
  have hl : x.size = N + r.length := by rw [← LB_len, hx, List.length_append, ha]
  obtain ⟨t1, t2, t3⟩ := tk_yes (s := x) (n := (N : Int)) (by omega) (by omega)
  refine ⟨by rw [hg, t1], ?_, ?_⟩
  · rw [hg, t3, LB_ext, Int.toNat_natCast, List.take_of_length_le (by rw [LB_len]; exact Nat.le_refl _), hx, ← ha]; simp
  · unfold getV
    rw [hg, t2]
    have e : (x.extract 0 ((N : Int)).toNat).data.toList = a := by
      show LB _ = a
      rw [LB_ext, Int.toNat_natCast, hx, ← ha]; simp
    rw [e]
end Go.Proofs.YtcjjgfejamddjaaDoor.Lit
