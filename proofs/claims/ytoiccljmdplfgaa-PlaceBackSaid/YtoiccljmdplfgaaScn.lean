/-
  scan's WRITING, WALKED: the kind of a byte; a field as it is written; a line of fields.
-/
import Derived.Test.YtoiccljmdplfgaaPt1
import Derived.Test.YtoiccljmdplfgaaJoin
import Derived.WalkLawsBesides
namespace Go.Proofs.Ytoiccljmdplfgaa.Pt
open Go.Lib (byteCells)
theorem cells_one (a : UInt8) : [Value.int .u8 (a.toNat : Int)] = byteCells [a] := rfl
theorem drop_at (s : ByteArray) (p : Nat) (h : p < s.size) : (L s).drop p = s[p] :: (L s).drop (p + 1) := by
  have h' : p < (L s).length := by rw [L_len]; exact h
  rw [List.drop_eq_getElem_cons h']; rfl
end Go.Proofs.Ytoiccljmdplfgaa.Pt
namespace Go.Proofs.Ytoiccljmdplfgaa.Scn
open Go.ChangeShapes Go.WideShapes Go.ChangeAt Go.RowKit
open Go.Proofs.Ytoiccljmdplfgaa
open Go.Proofs.Ytoiccljmdplfgaa.Wd
open Go.Proofs.Ytoiccljmdplfgaa.Pt (L L_len own_ge reads_one)
set_option linter.unusedVariables false
/-- the kind of a byte: 0 plain, 1 parting, 2 bad, 3 a comment's, 4 quotes -/
def kindN (b : UInt8) : Int :=
  if b.toNat = 32 ∨ b.toNat = 9 ∨ b.toNat = 13 then 1 else if b.toNat < 32 ∨ b.toNat = 127 then 2 else if b.toNat = 35 then 3 else if b.toNat = 34 then 4 else 0
set_option maxRecDepth 20000 in
set_option maxHeartbeats 1600000 in
theorem kind_any (b : UInt8) (w : World) :
    Calls Try.prog 97 #[.int .u8 (b.toNat : Int)] w fun e w' => e = .returned (.int .i64 (kindN b)) ∧ w' = w := by
  have hb := b.toNat_lt
  unfold kindN
  generalize b.toNat = n at *
  by_cases h1 : n = 32 ∨ n = 9 ∨ n = 13
  · rw [if_pos h1]
    rcases h1 with rfl | rfl | rfl
    all_goals
      go_enter Try.func97, Try.ntmps97
      go_wp2
      go_ret
      exact ⟨rfl, rfl⟩
  · rw [if_neg h1]
    have e1 : ((n : Int) == 32) = false := by rw [beq_eq_false_iff_ne]; omega
    have e2 : ((n : Int) == 9) = false := by rw [beq_eq_false_iff_ne]; omega
    have e3 : ((n : Int) == 13) = false := by rw [beq_eq_false_iff_ne]; omega
    clear h1
    by_cases h2 : n < 32 ∨ n = 127
    · rw [if_pos h2]
      rcases h2 with q | rfl
      · have q' : (n : Int) < 32 := by omega
        go_enter Try.func97, Try.ntmps97
        go_wp2
        go_ret
        exact ⟨rfl, rfl⟩
      · go_enter Try.func97, Try.ntmps97
        go_wp2
        go_ret
        exact ⟨rfl, rfl⟩
    · rw [if_neg h2]
      have e4 : ¬ (n : Int) < 32 := by omega
      have e5 : ((n : Int) == 127) = false := by rw [beq_eq_false_iff_ne]; omega
      clear h2
      by_cases h3 : n = 35
      · rw [if_pos h3]
        subst h3
        go_enter Try.func97, Try.ntmps97
        go_wp2
        go_ret
        exact ⟨rfl, rfl⟩
      · rw [if_neg h3]
        have e6 : ((n : Int) == 35) = false := by rw [beq_eq_false_iff_ne]; omega
        clear h3
        by_cases h4 : n = 34
        · rw [if_pos h4]
          subst h4
          go_enter Try.func97, Try.ntmps97
          go_wp2
          go_ret
          exact ⟨rfl, rfl⟩
        · rw [if_neg h4]
          have e7 : ((n : Int) == 34) = false := by rw [beq_eq_false_iff_ne]; omega
          clear h4
          go_enter Try.func97, Try.ntmps97
          go_wp2
          go_ret
          exact ⟨rfl, rfl⟩
/-- whether a byte may not be in a field; whether it must be quoted -/
def badB (b : UInt8) : Bool := kindN b == 2 || kindN b == 4
def inB (b : UInt8) : Bool := kindN b == 1 || kindN b == 3
def wQ (l : List UInt8) : Bool := l.isEmpty || l.any inB
def quoV (l : List UInt8) : List UInt8 := if l.any badB = true then [] else if wQ l = true then 34 :: (l ++ [34]) else l
def quoE (l : List UInt8) : Int := if l.any badB = true then 2 else 0
theorem kind_bd (b : UInt8) : kindN b = 0 ∨ kindN b = 1 ∨ kindN b = 2 ∨ kindN b = 3 ∨ kindN b = 4 := by
  unfold kindN; split
  · simp
  · split
    · simp
    · split
      · simp
      · split <;> simp
theorem any_take {p : UInt8 → Bool} {l : List UInt8} {k : Nat} (h : k < l.length) : (l.take (k + 1)).any p = ((l.take k).any p || p l[k]) := by
  rw [List.take_succ_eq_append_getElem h, List.any_append]; simp
theorem any_at {p : UInt8 → Bool} {l : List UInt8} {k : Nat} (h : k < l.length) (hp : p l[k] = true) : l.any p = true := List.any_eq_true.2 ⟨l[k], List.getElem_mem h, hp⟩
theorem quo_eq (s : ByteArray) : (⟨#[34]⟩ ++ s ++ ⟨#[34]⟩ : ByteArray) = ⟨(34 :: (L s ++ [34])).toArray⟩ := by
  apply ByteArray.ext
  apply Array.toList_inj.1
  simp [ByteArray.data_append, L]
set_option maxRecDepth 20000 in
set_option maxHeartbeats 1600000 in
theorem quote_any (s : ByteArray) (w : World) (hs : s.size ≤ 100000000) :
    Calls Try.prog 86 #[.string s] w fun e w' => e = .returned (.tuple #[.string ⟨(quoV (L s)).toArray⟩, .int .i64 (quoE (L s))]) ∧ w' = w := by
  have hem : s.toList.isEmpty = (L s).isEmpty := by rw [Lib.toList_data]
  generalize hE : (L s).isEmpty = em at *
  have HE := Lib.hid hE; clear hE
  go_enter Try.func86, Try.ntmps86
  go_wp2
  go_loopw [4, 5, 10] (fun v _ i w' => ∃ k : Nat, i = .int .i64 k ∧ k ≤ s.size ∧ v = .bool (em || ((L s).take k).any inB) ∧ ((L s).take k).any badB = false ∧ w' = w) (fun _ _ i _ => s.size - (intOf i).toNat)
  case atStart => exact ⟨0, rfl, Nat.zero_le _, by simp, by simp, rfl⟩
  case round =>
    obtain ⟨k, rfl, hk, rfl, hbd, rfl⟩ := hrel
    have HB := Lib.hid hbd; clear hbd
    by_cases hlt : k < s.size
    · have hlt' : (k : Int) < (s.size : Int) := by omega
      have hl : k < (L s).length := by rw [L_len]; exact hlt
      have hT1 := Lib.hid (any_take (p := inB) hl)
      have hT2 := Lib.hid (any_take (p := badB) hl)
      have hat : (L s)[k] = s[k] := rfl
      have hbA := Lib.hid (any_at (p := badB) hl)
      generalize ((L s).take k).any inB = wi at *
      rw [hat] at hT1 hT2 hbA
      have hkd := kind_bd s[k]
      rcases hkd with q | q | q | q | q
      · have f1 : inB s[k] = false := by unfold inB; rw [q]; rfl
        have f2 : badB s[k] = false := by unfold badB; rw [q]; rfl
        go_wp2_with (go_at_call 97; refine (kind_any _ _).mono ?_; rintro e w1 ⟨rfl, rfl⟩; rw [q])
        go_roundw
        case rel => exact ⟨k + 1, by go_num, by omega, by rw [hT1.out, f1]; simp, by rw [hT2.out, HB.out, f2]; rfl, trivial⟩
        case measure => simp [intOf]; omega
      · have f1 : inB s[k] = true := by unfold inB; rw [q]; rfl
        have f2 : badB s[k] = false := by unfold badB; rw [q]; rfl
        go_wp2_with (go_at_call 97; refine (kind_any _ _).mono ?_; rintro e w1 ⟨rfl, rfl⟩; rw [q])
        go_roundw
        case rel => exact ⟨k + 1, by go_num, by omega, by rw [hT1.out, f1]; simp, by rw [hT2.out, HB.out, f2]; rfl, trivial⟩
        case measure => simp [intOf]; omega
      · have f2 : badB s[k] = true := by unfold badB; rw [q]; rfl
        have hany := hbA.out f2
        go_wp2_with (go_at_call 97; refine (kind_any _ _).mono ?_; rintro e w1 ⟨rfl, rfl⟩; rw [q])
        go_ret2
        exact ⟨by unfold quoV quoE; rw [if_pos hany, if_pos hany]; rfl, rfl⟩
      · have f1 : inB s[k] = true := by unfold inB; rw [q]; rfl
        have f2 : badB s[k] = false := by unfold badB; rw [q]; rfl
        go_wp2_with (go_at_call 97; refine (kind_any _ _).mono ?_; rintro e w1 ⟨rfl, rfl⟩; rw [q])
        go_roundw
        case rel => exact ⟨k + 1, by go_num, by omega, by rw [hT1.out, f1]; simp, by rw [hT2.out, HB.out, f2]; rfl, trivial⟩
        case measure => simp [intOf]; omega
      · have f2 : badB s[k] = true := by unfold badB; rw [q]; rfl
        have hany := hbA.out f2
        go_wp2_with (go_at_call 97; refine (kind_any _ _).mono ?_; rintro e w1 ⟨rfl, rfl⟩; rw [q])
        go_ret2
        exact ⟨by unfold quoV quoE; rw [if_pos hany, if_pos hany]; rfl, rfl⟩
    · obtain rfl : k = s.size := by omega
      have hlt' : ¬ (s.size : Int) < (s.size : Int) := by omega
      have ee : (L s).take s.size = L s := List.take_of_length_le (by rw [L_len]; exact Nat.le_refl _)
      have hb := HB.out
      rw [ee] at hb ⊢
      have hw : (em || (L s).any inB) = wQ (L s) := by unfold wQ; rw [HE.out]
      rw [hw]
      have H1 := Lib.hid hb; clear hb hw ee
      cases hq : wQ (L s) with
      | true =>
        have H2 := Lib.hid hq; clear hq
        go_wp2
        go_ret2
        exact ⟨by unfold quoV quoE; rw [H1.out, H2.out]; simp only [if_neg Bool.false_ne_true, if_pos]; rw [← quo_eq]; rfl, rfl⟩
      | false =>
        have H2 := Lib.hid hq; clear hq
        go_wp2
        go_ret2
        exact ⟨by unfold quoV quoE; rw [H1.out, H2.out]; rfl, rfl⟩
end Go.Proofs.Ytoiccljmdplfgaa.Scn
