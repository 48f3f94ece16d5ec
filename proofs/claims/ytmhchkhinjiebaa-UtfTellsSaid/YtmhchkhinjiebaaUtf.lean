/-
  THE FUNCTIONS OF utf, AND THE REFERENCE's, WALKED (1): one character.
-/
import Derived.Test.YtmhchkhinjiebaaRows
import Derived.Test.YtmhchkhinjiebaaUtfM
import Derived.WalkKit
import Derived.WalkLawsBesides
import Derived.ProofKit
import Derived.Outline
import Derived.Lib.Hide
namespace Go.Proofs.Ytmhchkhinjiebaa.Utf
open Go.ChangeShapes Go.WideShapes Go.ChangeAt Go.RowKit
set_option linter.unusedVariables false
def encS (c : Int) : ByteArray := if Utf8.valid c = true then Utf8.encode c else ⟨#[]⟩
def encE (c : Int) : Int := if Utf8.valid c = true then 0 else 1
theorem valid_iff (c : Int) : Utf8.valid c = true ↔ (0 ≤ c ∧ c < 55296) ∨ (57344 ≤ c ∧ c ≤ 1114111) := by
  simp only [Utf8.valid, Bool.or_eq_true, Bool.and_eq_true, decide_eq_true_eq]
theorem ret_str {s t : ByteArray} {a b : Int} (h : s = t) (h' : a = b) : Ending.returned (.tuple #[.string s, .int .i64 a]) = Ending.returned (.tuple #[.string t, .int .i64 b]) := by rw [h, h']
theorem enc_any (c : Int) (w : World) :
    Calls Try.prog 6 #[.int .i64 c] w fun e w' => e = .returned (.tuple #[.string (encS c), .int .i64 (encE c)]) ∧ w = w' := by
  by_cases h : Utf8.valid c = true
  · have H : encS c = Utf8.encode c ∧ encE c = 0 := by unfold encS encE; rw [if_pos h, if_pos h]; exact ⟨rfl, rfl⟩
    have HH := Lib.hid H; clear H
    rw [valid_iff] at h
    rcases h with ⟨h1, h2⟩ | ⟨h1, h2⟩
    all_goals
      go_enter Try.func6, Try.ntmps6
      go_wp2
      go_ret2
      exact ⟨ret_str HH.out.1.symm HH.out.2.symm, rfl⟩
  · have H : encS c = ⟨#[]⟩ ∧ encE c = 1 := by unfold encS encE; rw [if_neg h, if_neg h]; exact ⟨rfl, rfl⟩
    have HH := Lib.hid H; clear H
    have h' : c < 0 ∨ (0 ≤ c ∧ 1114111 < c) ∨ (55296 ≤ c ∧ c ≤ 57343) := by
      rw [valid_iff] at h; omega
    clear h
    rcases h' with h1 | ⟨h1, h2⟩ | ⟨h1, h2⟩
    all_goals
      go_enter Try.func6, Try.ntmps6
      go_wp2
      go_ret2
      exact ⟨ret_str HH.out.1.symm HH.out.2.symm, rfl⟩
/-- bytes of a block of the call's own, as a text -/
theorem conv_new (W : World) (xs : List Int) (hx : ∀ x ∈ xs, 0 ≤ x ∧ x < 256) (n : Nat) (hn : n = xs.length) :
    (convert 35 9 (.slice (some ⟨W.heap.size, 0, none⟩) n n)).run Try.prog (W.alloc (.cells (xs.map (Value.int .u8)).toArray 5)) = .ok (.string ⟨(xs.map fun x => UInt8.ofNat x.toNat).toArray⟩) (W.alloc (.cells (xs.map (Value.int .u8)).toArray 5)) := by
  subst hn
  have h := run_convert_bytes_back (P := Try.prog) (W.alloc (.cells (xs.map (Value.int .u8)).toArray 5)) 35 9 5 ⟨W.heap.size, 0, none⟩ xs.length (xs.map fun x => UInt8.ofNat x.toNat) Try.underlying35 Try.underlying5 Try.underlying9 (by
    intro j hj
    have hj' : j < xs.length := by simpa using hj
    have hb := hx xs[j] (List.getElem_mem hj')
    have ha : (Addr.add ⟨W.heap.size, 0, none⟩ j) = ⟨W.heap.size, j, none⟩ := by unfold Addr.add; split <;> simp_all
    rw [ha, World.cell?_alloc_new]
    simp only [List.getElem?_toArray, List.getElem?_map, List.getElem?_eq_getElem hj', Option.map_some, List.getElem_map]
    rw [toNat_u8 (by omega)]
    congr 2; omega)
  simpa using h
theorem encode_bytes (c : Int) (h : Utf8.valid c = true) : Utf8.encode c = ⟨(enc c.toNat).toArray⟩ := by
  have h0 : (c.toNat : Int) = c := by rw [valid_iff] at h; omega
  have e := enc_utf8 c.toNat (by rw [← valid_val, h0]; exact h)
  rw [h0] at e
  rw [← e]
theorem u8i (a : Int) (n : Nat) (h : a = (n : Int)) : UInt8.ofNat a.toNat = UInt8.ofNat n := by rw [h]; rfl
theorem renc_any (c : Int) (w : World) :
    Calls Try.prog 7 #[.int .i64 c] w fun e w' => e = .returned (.tuple #[.string (encS c), .int .i64 (encE c)]) ∧ Below w.heap.size w w' := by
  by_cases h : Utf8.valid c = true
  · have H : encS c = ⟨(enc c.toNat).toArray⟩ ∧ encE c = 0 := by unfold encS encE; rw [if_pos h, if_pos h, encode_bytes c h]; exact ⟨rfl, rfl⟩
    rw [H.1, H.2]
    rw [valid_iff] at h
    by_cases h1 : c < 128
    · have h0 : 0 ≤ c := by omega
      have k := conv_new w [c] (by simp; omega) 1 rfl
      simp only [List.map_cons, List.map_nil] at k
      have E : enc c.toNat = [UInt8.ofNat c.toNat] := by unfold enc; rw [if_pos (by omega)]
      rw [E]
      clear h H E
      go_enter Try.func7, Try.ntmps7
      go_wp2
      go_ret2
      exact ⟨rfl, (Below.refl _ _).alloc (Nat.le_refl _) _⟩
    · by_cases h2 : c < 2048
      · have k := conv_new w [192 + c / 64, 128 + c % 64] (by simp; omega) 2 rfl
        simp only [List.map_cons, List.map_nil] at k
        rw [u8i (192 + c / 64) (192 + c.toNat / 64) (by omega), u8i (128 + c % 64) (128 + c.toNat % 64) (by omega)] at k
        have E : enc c.toNat = [UInt8.ofNat (192 + c.toNat / 64), UInt8.ofNat (128 + c.toNat % 64)] := by unfold enc; rw [if_neg (by omega), if_pos (by omega)]
        rw [E]
        clear h H E
        go_enter Try.func7, Try.ntmps7
        go_wp2
        go_ret2
        exact ⟨rfl, (Below.refl _ _).alloc (Nat.le_refl _) _⟩
      · by_cases h3 : c < 65536
        · have k := conv_new w [224 + c / 4096, 128 + c / 64 % 64, 128 + c % 64] (by simp; omega) 3 rfl
          simp only [List.map_cons, List.map_nil] at k
          rw [u8i (224 + c / 4096) (224 + c.toNat / 4096) (by omega), u8i (128 + c / 64 % 64) (128 + c.toNat / 64 % 64) (by omega), u8i (128 + c % 64) (128 + c.toNat % 64) (by omega)] at k
          have E : enc c.toNat = [UInt8.ofNat (224 + c.toNat / 4096), UInt8.ofNat (128 + c.toNat / 64 % 64), UInt8.ofNat (128 + c.toNat % 64)] := by unfold enc; rw [if_neg (by omega), if_neg (by omega), if_pos (by omega)]
          rw [E]
          have hh : c < 55296 ∨ 57343 < c := by omega
          have h4 : c ≤ 1114111 := by omega
          clear h H E
          rcases hh with hh | hh
          all_goals
            go_enter Try.func7, Try.ntmps7
            go_wp2
            go_ret2
            exact ⟨rfl, (Below.refl _ _).alloc (Nat.le_refl _) _⟩
        · have k := conv_new w [240 + c / 262144, 128 + c / 4096 % 64, 128 + c / 64 % 64, 128 + c % 64] (by simp; omega) 4 rfl
          simp only [List.map_cons, List.map_nil] at k
          rw [u8i (240 + c / 262144) (240 + c.toNat / 262144) (by omega), u8i (128 + c / 4096 % 64) (128 + c.toNat / 4096 % 64) (by omega), u8i (128 + c / 64 % 64) (128 + c.toNat / 64 % 64) (by omega), u8i (128 + c % 64) (128 + c.toNat % 64) (by omega)] at k
          have E : enc c.toNat = [UInt8.ofNat (240 + c.toNat / 262144), UInt8.ofNat (128 + c.toNat / 4096 % 64), UInt8.ofNat (128 + c.toNat / 64 % 64), UInt8.ofNat (128 + c.toNat % 64)] := by unfold enc; rw [if_neg (by omega), if_neg (by omega), if_neg (by omega)]
          rw [E]
          have h4 : c ≤ 1114111 := by omega
          clear h H E
          go_enter Try.func7, Try.ntmps7
          go_wp2
          go_ret2
          exact ⟨rfl, (Below.refl _ _).alloc (Nat.le_refl _) _⟩
  · have H : encS c = ⟨#[]⟩ ∧ encE c = 1 := by unfold encS encE; rw [if_neg h, if_neg h]; exact ⟨rfl, rfl⟩
    rw [H.1, H.2]
    have h' : c < 0 ∨ (0 ≤ c ∧ 1114111 < c) ∨ (55296 ≤ c ∧ c ≤ 57343) := by
      rw [valid_iff] at h; omega
    clear h H
    rcases h' with h1 | ⟨h1, h2⟩ | ⟨h1, h2⟩
    all_goals
      go_enter Try.func7, Try.ntmps7
      go_wp2
      go_ret2
      exact ⟨rfl, Below.refl _ _⟩
end Go.Proofs.Ytmhchkhinjiebaa.Utf
