/-
  What reads a footer: a byte that may be, or must be; a number; a name: walked.
-/
import Derived.Test.YtgdgkgeoigljcaaDoorFo5
import Derived.Lib.IndexLaws
namespace Go.Proofs.YtgdgkgeoigljcaaDoor.Fo
open Go.ChangeShapes Go.WideShapes Go.ChangeAt Go.RowKit Go.Shelf
open Go.Proofs.YtgdgkgeoigljcaaDoor
open Go.Proofs.YtgdgkgeoigljcaaDoor.Wd
open Go.Proofs.YtgdgkgeoigljcaaDoor.Rec
open Go.Proofs.YtgdgkgeoigljcaaDoor.Tb (Rc)
open Go.Proofs.YtgdgkgeoigljcaaDoor.Civ (Tab)
open Go.Lib (byteCells)
set_option linter.unusedVariables false
set_option linter.unusedSimpArgs false
/-- a text that is read, and whether something was not there -/
structure Rs where
  s : List UInt8
  bad : Bool
def Rd (w : World) (g : Nat) (x : Rs) : Prop := Blk w g 54 #[.string (B x.s), .bool x.bad]
/-- all stands but what the reader is -/
structure KB (g : Nat) (w w' : World) : Prop where
  b : Below 0 w w'
  k : ∀ j, j < w.heap.size → j ≠ g → w'.heap[j]? = w.heap[j]?
theorem KB.refl (g : Nat) (w : World) : KB g w w := ⟨Below.refl _ _, fun _ _ _ => rfl⟩
theorem KB.trans {g : Nat} {a c d : World} (h : KB g a c) (k : KB g c d) : KB g a d :=
  ⟨h.b.trans k.b, fun j hj hn => (k.k j (Nat.lt_of_lt_of_le hj h.b.size) hn).trans (h.k j hj hn)⟩
theorem KB.of {g : Nat} {w w' : World} (h : Below w.heap.size w w') : KB g w w' := ⟨h.mono (Nat.zero_le _), fun j hj _ => h.block j hj⟩
theorem KB.set {g : Nat} {w w' : World} (h : KB g w w') (i : Nat) (v : Value) : KB g w (w'.setCell ⟨g, i, none⟩ v) :=
  ⟨h.b.setCell (Nat.zero_le _) v, fun j hj hn => (Below.heap_setCell _ _ _ _ hn).trans (h.k j hj hn)⟩
theorem KB.blk {g k : Nat} {w w' : World} {t : TypeId} {cs : Array Value} (h : KB g w w') (x : Blk w k t cs) (hn : k ≠ g) : Blk w' k t cs := (h.k k x.lt hn).trans x
theorem KB.below {g Bd : Nat} {w w' : World} (h : KB g w w') (hb : Bd ≤ g) (hw : Bd ≤ w.heap.size) : Below Bd w w' := ⟨h.b.os, h.b.tape, h.b.output, h.b.size, fun j hj => h.k j (by omega) (by omega)⟩
def mayR (c : UInt8) (x : Rs) : Bool × Rs := match x.s with
  | [] => (false, x)
  | b :: r => if b = c then (true, ⟨r, x.bad⟩) else (false, x)
def mustR (c : UInt8) (x : Rs) : Rs := if (mayR c x).1 = true then (mayR c x).2 else ⟨x.s, true⟩
theorem may_cases (c : UInt8) (x : Rs) : (∃ r, x.s = c :: r ∧ mayR c x = (true, ⟨r, x.bad⟩)) ∨ (mayR c x = (false, x) ∧ Lib.hasPrefix x.s [c] = false) := by
  unfold mayR
  cases e : x.s with
  | nil => exact .inr ⟨rfl, rfl⟩
  | cons b r =>
    by_cases h : b = c
    · subst h; exact .inl ⟨r, rfl, by simp⟩
    · exact .inr ⟨by simp [h], by simp [Lib.hasPrefix, List.isPrefixOf]; exact fun q => h q.symm⟩
set_option maxRecDepth 20000 in
set_option maxHeartbeats 3200000 in
theorem may_any (g : Nat) (c : UInt8) (x : Rs) (w : World) (h : Rd w g x) :
    Calls Tryd.prog 29 #[.pointer (some ⟨g, 0, none⟩), .string ⟨#[c]⟩] w fun e w' => e = .returned (.bool (mayR c x).1) ∧ Rd w' g (mayR c x).2 ∧ KB g w w' := by
  have c0 : w.cell? ⟨g, 0, none⟩ = some (.string (B x.s)) := h.cell 0
  have f0 : w.frozen? ⟨g, 0, none⟩ = false := h.frozen 0
  have hcp := fun W => Tryd.strings_CutPrefix (B x.s) ⟨#[c]⟩ W
  rcases may_cases c x with ⟨r, h1, h2⟩ | ⟨h1, h2⟩
  · have q1 : Lib.hasPrefix (B x.s).data.toList ((⟨#[c]⟩ : ByteArray)).data.toList = true := by show Lib.hasPrefix x.s [c] = true; rw [h1]; simp [Lib.hasPrefix]
    have q2 : Lib.trimPrefix (B x.s).data.toList ((⟨#[c]⟩ : ByteArray)).data.toList = r := by show Lib.trimPrefix x.s [c] = r; rw [h1]; simp [Lib.trimPrefix, Lib.hasPrefix]
    simp only [q1, q2] at hcp
    have HR := Lib.hid h2
    clear h1 h2 q1 q2
    go_enter Tryd.func29, Tryd.ntmps29
    go_wp2_with fail
    refine (hcp _).mono ?_; rintro e W ⟨rfl, rfl⟩
    clear hcp
    go_wp2_with fail
    go_ret
    rw [HR.out]
    exact ⟨rfl, h.set_ 0 (.string (B r)), (KB.refl g _).set 0 _⟩
  · have q1 : Lib.hasPrefix (B x.s).data.toList ((⟨#[c]⟩ : ByteArray)).data.toList = false := h2
    simp only [q1] at hcp
    have HR := Lib.hid h1
    clear h1 h2 q1
    generalize (Lib.trimPrefix (B x.s).data.toList ((⟨#[c]⟩ : ByteArray)).data.toList).toArray = z at *
    go_enter Tryd.func29, Tryd.ntmps29
    go_wp2_with fail
    refine (hcp _).mono ?_; rintro e W ⟨rfl, rfl⟩
    clear hcp
    go_wp2_with fail
    go_ret
    rw [HR.out]
    exact ⟨rfl, h, KB.refl g _⟩
set_option maxRecDepth 20000 in
set_option maxHeartbeats 3200000 in
theorem must_any (g : Nat) (c : UInt8) (x : Rs) (w : World) (h : Rd w g x) :
    Calls Tryd.prog 30 #[.pointer (some ⟨g, 0, none⟩), .string ⟨#[c]⟩] w fun e w' => e = .returned (.tuple #[]) ∧ Rd w' g (mustR c x) ∧ KB g w w' := by
  have hm := may_any g c x w h
  unfold mustR
  cases hq : (mayR c x).1 with
  | true =>
    rw [hq] at hm
    rw [if_pos rfl]
    go_enter Tryd.func30, Tryd.ntmps30
    go_wp2_with fail
    refine hm.mono ?_; rintro e W ⟨rfl, h1, k1⟩
    go_wp2_with fail
    go_end0
    exact ⟨rfl, h1, k1⟩
  | false =>
    rw [hq] at hm
    have hs : (mayR c x).2 = x := by
      rcases may_cases c x with ⟨r, h1, h2⟩ | ⟨h1, h2⟩
      · rw [h2] at hq; cases hq
      · rw [h1]
    rw [hs] at hm
    rw [if_neg (by decide)]
    go_enter Tryd.func30, Tryd.ntmps30
    go_wp2_with fail
    refine hm.mono ?_; rintro e W ⟨rfl, h1, k1⟩
    have d1 : W.cell? ⟨g, 1, none⟩ = some (.bool x.bad) := h1.cell 1
    have f1 : W.frozen? ⟨g, 1, none⟩ = false := h1.frozen 1
    clear hm
    go_wp2_with fail
    go_end0
    exact ⟨rfl, h1.set_ 1 (.bool true), k1.set 1 _⟩
/-- how many digits a text begins with, up to some -/
def cntK : Nat → List UInt8 → Nat
  | 0, _ => 0
  | _ + 1, [] => 0
  | k + 1, b :: r => if dgB b = true then cntK k r + 1 else 0
def numN (l : List UInt8) : Nat := l.foldl (fun n b => n * 10 + (b.toNat - 48)) 0
theorem numN_snoc (l : List UInt8) (b : UInt8) : numN (l ++ [b]) = numN l * 10 + (b.toNat - 48) := by unfold numN; rw [List.foldl_append]; rfl
theorem cnt_le : ∀ (k : Nat) (l : List UInt8), cntK k l ≤ k ∧ cntK k l ≤ l.length
  | 0, _ => ⟨Nat.le_refl _, Nat.zero_le _⟩
  | _ + 1, [] => ⟨Nat.zero_le _, Nat.le_refl _⟩
  | k + 1, b :: r => by
    have := cnt_le k r
    unfold cntK
    split <;> simp <;> omega
theorem cnt_at : ∀ (k j : Nat) (l : List UInt8), j ≤ k → j ≤ l.length → (∀ b ∈ l.take j, dgB b = true) → (j = k ∨ ∀ h : j < l.length, dgB l[j] = false) → cntK k l = j
  | 0, j, l, h1, _, _, _ => by have : j = 0 := by omega
                               subst this; rfl
  | k + 1, j, [], _, h2, _, _ => by have : j = 0 := by simpa using h2
                                    subst this; rfl
  | k + 1, 0, b :: r, _, _, _, h4 => by
    rcases h4 with h | h
    · omega
    · have : dgB b = false := h (by simp)
      unfold cntK; rw [this]; rfl
  | k + 1, j + 1, b :: r, h1, h2, h3, h4 => by
    have hb : dgB b = true := h3 b (by simp)
    unfold cntK
    rw [if_pos hb, cnt_at k j r (by omega) (by simpa using h2) (fun c hc => h3 c (by simp [hc])) (by
      rcases h4 with h | h
      · exact .inl (by omega)
      · exact .inr (fun q => h (by simpa using q)))]
def numR (k : Nat) (x : Rs) : Nat × Rs := (numN (x.s.take (cntK k x.s)), ⟨x.s.drop (cntK k x.s), x.bad || cntK k x.s == 0⟩)
theorem num_bd {l : List UInt8} (h : l.length ≤ 2) (hd : ∀ b ∈ l, dgB b = true) : numN l ≤ 99 ∧ (l.length ≤ 1 → numN l ≤ 9) := by
  have hv : ∀ b ∈ l, b.toNat - 48 ≤ 9 := fun b hb => by have := hd b hb; unfold dgB at this; rw [decide_eq_true_eq] at this; omega
  match l, h with
  | [], _ => exact ⟨by decide, fun _ => by decide⟩
  | [a], _ =>
    have := hv a (by simp)
    have e : numN [a] = 0 * 10 + (a.toNat - 48) := rfl
    omega
  | [a, b], _ =>
    have h1 := hv a (by simp); have h2 := hv b (by simp)
    have e : numN [a, b] = (0 * 10 + (a.toNat - 48)) * 10 + (b.toNat - 48) := rfl
    exact ⟨by omega, fun q => by simp at q⟩
theorem ext_take (s : ByteArray) (k : Nat) : s.extract 0 k = B ((L s).take k) := by
  apply ByteArray.ext; apply Array.toList_inj.1
  simp [L, B]
theorem ext_drop (s : ByteArray) (k : Nat) : s.extract k s.size = B ((L s).drop k) := by
  apply ByteArray.ext; apply Array.toList_inj.1
  simp [L, B]
  exact List.take_of_length_le (by rw [List.length_drop]; exact Nat.le_refl _)
set_option maxRecDepth 20000 in
set_option maxHeartbeats 6400000 in
theorem rnum_s (g k : Nat) (hk : k ≤ 2) (s : ByteArray) (bad : Bool) (w : World) (h : Blk w g 54 #[.string s, .bool bad]) (hs : s.size ≤ 100000) :
    Calls Tryd.prog 56 #[.pointer (some ⟨g, 0, none⟩), .int .i64 (k : Int)] w fun e w' => e = .returned (.int .i64 ((numR k ⟨L s, bad⟩).1 : Int)) ∧ Rd w' g (numR k ⟨L s, bad⟩).2 ∧ KB g w w' := by
  have c0 : w.cell? ⟨g, 0, none⟩ = some (.string s) := h.cell 0
  have c1 : w.cell? ⟨g, 1, none⟩ = some (.bool bad) := h.cell 1
  have f0 : w.frozen? ⟨g, 0, none⟩ = false := h.frozen 0
  have f1 : w.frozen? ⟨g, 1, none⟩ = false := h.frozen 1
  go_enter Tryd.func56, Tryd.ntmps56
  go_wp2_with fail
  go_loopw [5, 6] (fun nv iv wr => ∃ j : Nat, iv = .int .i64 (j : Int) ∧ j ≤ k ∧ j ≤ s.size ∧ (∀ b ∈ (L s).take j, dgB b = true) ∧ nv = .int .i64 (numN ((L s).take j) : Int) ∧ wr = w) (fun _ iv _ => k - (intOf iv).toNat)
  case atStart => exact ⟨0, rfl, Nat.zero_le _, Nat.zero_le _, (fun b hb => by simp at hb), rfl, rfl⟩
  case round =>
    obtain ⟨j, rfl, hjk, hjs, hall, rfl, rfl⟩ := hrel
    have hbd := (num_bd (l := (L s).take j) (Nat.le_trans (List.length_take_le _ _) (by omega)) hall)
    have hb1 := hbd.1
    have hb2 : j ≤ 1 → numN ((L s).take j) ≤ 9 := fun q => hbd.2 (Nat.le_trans (List.length_take_le _ _) q)
    clear hbd
    have HA := Lib.hid hall; clear hall
    by_cases hc : (j = k ∨ ∀ q : j < (L s).length, dgB (L s)[j] = false)
    · have HC := Lib.hid (cnt_at k j (L s) hjk (by rw [L_len]; exact hjs) HA.out hc)
      have HE : (numR k ⟨L s, bad⟩).1 = numN ((L s).take j) ∧ (numR k ⟨L s, bad⟩).2 = ⟨(L s).drop j, bad || j == 0⟩ := by unfold numR; rw [HC.out]; exact ⟨rfl, rfl⟩
      have HE2 := Lib.hid HE
      have hx := ext_drop s j
      have HX := Lib.hid hx
      clear HC HE hx hb2 HA
      have hjI : (j : Int) ≤ (s.size : Int) := by omega
      generalize numN ((L s).take j) = N at *
      have fin : ∀ W : World, Blk W g 54 #[.string s, .bool (bad || j == 0)] → KB g wr W → Rd (W.setCell ⟨g, 0, none⟩ (.string (s.extract j s.size))) g (numR k ⟨L s, bad⟩).2 ∧ KB g wr (W.setCell ⟨g, 0, none⟩ (.string (s.extract j s.size))) := fun W q1 q2 => by
        rw [HE2.out.2]
        refine ⟨?_, q2.set 0 _⟩
        have := q1.set_ 0 (.string (s.extract j s.size))
        rw [HX.out] at this ⊢
        exact this
      have FI := Lib.hid fin; clear fin
      by_cases e1 : j < k
      · have e1' : (j : Int) < (k : Int) := by omega
        by_cases e2 : j < s.size
        · have e2' : (j : Int) < (s.size : Int) := by omega
          have hd := digit_any s[j]
          have hd0 : dgB s[j] = false := by
            rcases hc with q | q
            · omega
            · exact q (by rw [L_len]; exact e2)
          rw [hd0] at hd
          clear hc hd0
          by_cases hj0 : j = 0
          · have e6 : ((j : Int) == 0) = true := by simp [hj0]
            have hbt : (bad || j == 0) = true := by simp [hj0]
            rw [hbt] at FI
            clear hbt hj0
            go_wp2_with (go_at_call 40; refine (hd _).mono ?_; rintro e W ⟨rfl, rfl⟩)
            go_ret
            obtain ⟨q1, q2⟩ := FI.out _ (h.set_ 1 (.bool true)) ((KB.refl g _).set 1 _)
            exact ⟨by rw [HE2.out.1]; rfl, q1, q2⟩
          · have e6 : ((j : Int) == 0) = false := by simp [hj0]
            have hbt : (bad || j == 0) = bad := by simp [hj0]
            rw [hbt] at FI
            clear hbt hj0
            go_wp2_with (go_at_call 40; refine (hd _).mono ?_; rintro e W ⟨rfl, rfl⟩)
            go_ret
            obtain ⟨q1, q2⟩ := FI.out _ h (KB.refl g _)
            exact ⟨by rw [HE2.out.1]; rfl, q1, q2⟩
        · have e2' : ¬ (j : Int) < (s.size : Int) := by omega
          clear hc
          by_cases hj0 : j = 0
          · have e6 : ((j : Int) == 0) = true := by simp [hj0]
            have hbt : (bad || j == 0) = true := by simp [hj0]
            rw [hbt] at FI
            clear hbt hj0
            go_wp2_with fail
            go_ret
            obtain ⟨q1, q2⟩ := FI.out _ (h.set_ 1 (.bool true)) ((KB.refl g _).set 1 _)
            exact ⟨by rw [HE2.out.1]; rfl, q1, q2⟩
          · have e6 : ((j : Int) == 0) = false := by simp [hj0]
            have hbt : (bad || j == 0) = bad := by simp [hj0]
            rw [hbt] at FI
            clear hbt hj0
            go_wp2_with fail
            go_ret
            obtain ⟨q1, q2⟩ := FI.out _ h (KB.refl g _)
            exact ⟨by rw [HE2.out.1]; rfl, q1, q2⟩
      · have e1' : ¬ (j : Int) < (k : Int) := by omega
        clear hc
        by_cases hj0 : j = 0
        · have e6 : ((j : Int) == 0) = true := by simp [hj0]
          have hbt : (bad || j == 0) = true := by simp [hj0]
          rw [hbt] at FI
          clear hbt hj0
          go_wp2_with fail
          go_ret
          obtain ⟨q1, q2⟩ := FI.out _ (h.set_ 1 (.bool true)) ((KB.refl g _).set 1 _)
          exact ⟨by rw [HE2.out.1]; rfl, q1, q2⟩
        · have e6 : ((j : Int) == 0) = false := by simp [hj0]
          have hbt : (bad || j == 0) = bad := by simp [hj0]
          rw [hbt] at FI
          clear hbt hj0
          go_wp2_with fail
          go_ret
          obtain ⟨q1, q2⟩ := FI.out _ h (KB.refl g _)
          exact ⟨by rw [HE2.out.1]; rfl, q1, q2⟩
    · have hjk2 : j < k := by
        rcases Nat.lt_or_ge j k with q | q
        · exact q
        · exact absurd (.inl (by omega)) hc
      have hjl : j < s.size := by
        rcases Nat.lt_or_ge j s.size with q | q
        · exact q
        · exact absurd (.inr (fun z => by rw [L_len] at z; omega)) hc
      have hdg : dgB s[j] = true := by
        cases q : dgB s[j] with
        | true => rfl
        | false => exact absurd (.inr (fun z => q)) hc
      have hkl : j < (L s).length := by rw [L_len]; exact hjl
      have hd := digit_any s[j]
      rw [hdg] at hd
      have hbv : 48 ≤ s[j].toNat ∧ s[j].toNat ≤ 57 := by unfold dgB at hdg; rwa [decide_eq_true_eq] at hdg
      have HT := Lib.hid (show ∀ b ∈ (L s).take (j + 1), dgB b = true from fun b hb' => by
        rw [List.take_succ_eq_append_getElem hkl] at hb'
        rcases List.mem_append.1 hb' with q | q
        · exact HA.out b q
        · rw [List.mem_singleton.1 q]; exact hdg)
      have HV := Lib.hid (show (numN ((L s).take (j + 1)) : Int) = (numN ((L s).take j) : Int) * 10 + ((s[j].toNat : Int) - 48) by
        rw [List.take_succ_eq_append_getElem hkl, numN_snoc]
        have : (L s)[j] = s[j] := rfl
        rw [this]; omega)
      have hN9 : numN ((L s).take j) ≤ 9 := hb2 (by omega)
      generalize numN ((L s).take j) = N at *
      have e1' : (j : Int) < (k : Int) := by omega
      have e2' : (j : Int) < (s.size : Int) := by omega
      have wv : IntKind.u8.wrap ((s[j].toNat : Int) - 48) = (s[j].toNat : Int) - 48 := by simp [IntKind.wrap, IntKind.bits, IntKind.signed]; omega
      have wv2 : IntKind.i64.wrap ((s[j].toNat : Int) - 48) = (s[j].toNat : Int) - 48 := by simp [IntKind.wrap, IntKind.bits, IntKind.signed]; omega
      clear hc hdg HA hb2
      go_wp2_with (go_at_call 40; refine (hd _).mono ?_; rintro e W ⟨rfl, rfl⟩)
      go_roundw
      case rel => exact ⟨j + 1, by go_num, by omega, by omega, HT.out, by rw [HV.out], by trivial⟩
      case measure => simp [intOf]; omega
theorem rnum_any (g k : Nat) (hk : k ≤ 2) (x : Rs) (w : World) (h : Rd w g x) (hx : x.s.length ≤ 100000) :
    Calls Tryd.prog 56 #[.pointer (some ⟨g, 0, none⟩), .int .i64 (k : Int)] w fun e w' => e = .returned (.int .i64 ((numR k x).1 : Int)) ∧ Rd w' g (numR k x).2 ∧ KB g w w' :=
  rnum_s g k hk (B x.s) x.bad w h (by rw [B_len]; exact hx)
/-- what is ahead of a byte, what is behind it, and whether it is there -/
def cutC (c : UInt8) : List UInt8 → List UInt8 × List UInt8 × Bool
  | [] => ([], [], false)
  | b :: r => if b = c then ([], r, true) else (b :: (cutC c r).1, (cutC c r).2.1, (cutC c r).2.2)
theorem cut_idx (c : UInt8) : ∀ l : List UInt8, (Lib.indexByte l c = -1 ∧ cutC c l = (l, [], false)) ∨ ∃ k : Nat, Lib.indexByte l c = (k : Int) ∧ k < l.length ∧ cutC c l = (l.take k, l.drop (k + 1), true)
  | [] => .inl ⟨rfl, rfl⟩
  | b :: r => by
    by_cases h : b = c
    · subst h
      exact .inr ⟨0, by simp [Lib.indexByte], by simp, by simp [cutC]⟩
    · have hb : (b == c) = false := beq_eq_false_iff_ne.2 h
      rcases cut_idx c r with ⟨h1, h2⟩ | ⟨k, h1, h2, h3⟩
      · exact .inl ⟨by simp [Lib.indexByte, hb, h1], by simp [cutC, h, h2]⟩
      · refine .inr ⟨k + 1, ?_, by simpa using h2, by simp [cutC, h, h3]⟩
        have : ((k : Int) == -1) = false := by rw [beq_eq_false_iff_ne]; omega
        simp [Lib.indexByte, hb, h1, this]
abbrev CutR (c : UInt8) (l : List UInt8) : Value := .tuple #[.string (B (cutC c l).1), .string (B (cutC c l).2.1), .bool (cutC c l).2.2]
set_option maxRecDepth 20000 in
set_option maxHeartbeats 3200000 in
theorem scut_c (c : UInt8) (s : ByteArray) (w : World) (hs : s.size ≤ maxLen) :
    Calls Tryd.prog 67 #[.string s, .string ⟨#[c]⟩] w fun e w' => e = .returned (CutR c (L s)) ∧ Below w.heap.size w w' := by
  unfold maxLen at hs
  have hix := fun w => Tryd.stringslite_Index_one s c w
  have h1s : ((⟨#[c]⟩ : ByteArray)).size = 1 := rfl
  rcases cut_idx c (L s) with ⟨h1, h2⟩ | ⟨k, h1, h2, h3⟩
  · rw [show Lib.indexByte s.data.toList c = -1 from h1] at hix
    have hR := Lib.hid (show CutR c (L s) = .tuple #[.string s, .string ⟨#[]⟩, .bool false] by unfold CutR; rw [h2])
    clear h1 h2
    go_enter Tryd.func67, Tryd.ntmps67
    go_wp2_with fail
    refine (hix _).mono ?_; rintro e w1 ⟨rfl, rfl⟩
    go_wp2_with fail
    exact bodyPost_ret (by simp [results, go_sem]; try rfl) rfl ⟨by rw [hR.out], Below.refl _ _⟩
  · rw [show Lib.indexByte s.data.toList c = (k : Int) from h1] at hix
    rw [L_len] at h2
    have hR := Lib.hid (show CutR c (L s) = .tuple #[.string (s.extract 0 k), .string (s.extract (k + 1) s.size), .bool true] by unfold CutR; rw [h3, ext_take, ext_drop])
    have b1 : (0 : Int) ≤ (k : Int) := by omega
    have b2 : (k : Int) ≤ (s.size : Int) := by omega
    have b3 : (k : Int) + 1 ≤ (s.size : Int) := by omega
    have wr1 : IntKind.i64.wrap ((k : Int) + 1) = (k : Int) + 1 := by simp [IntKind.wrap, IntKind.bits, IntKind.signed]; omega
    clear h1 h3
    go_enter Tryd.func67, Tryd.ntmps67
    go_wp2_with fail
    refine (hix _).mono ?_; rintro e w1 ⟨rfl, rfl⟩
    go_wp2_with fail
    go_region
    all_goals (go_wp2_with fail; exact bodyPost_ret (by simp [results, go_sem]; try rfl) rfl ⟨by rw [hR.out], (Below.refl _ _).drew⟩)
set_option maxRecDepth 20000 in
set_option maxHeartbeats 3200000 in
theorem cut_c (c : UInt8) (s : ByteArray) (w : World) (hs : s.size ≤ maxLen) :
    Calls Tryd.prog 55 #[.string s, .string ⟨#[c]⟩] w fun e w' => e = .returned (CutR c (L s)) ∧ Below w.heap.size w w' := by
  have hc := fun w => scut_c c s w hs
  simp only [CutR] at hc ⊢
  generalize B (cutC c (L s)).1 = a1 at *
  generalize B (cutC c (L s)).2.1 = a2 at *
  generalize (cutC c (L s)).2.2 = a3 at *
  go_enter Tryd.func55, Tryd.ntmps55
  go_wp2_with fail
  refine (hc _).mono ?_; rintro e w1 ⟨rfl, hb⟩
  go_wp2_with fail
  exact bodyPost_ret (by simp [results, go_sem]; try rfl) rfl ⟨rfl, hb⟩
def nameR (x : Rs) : List UInt8 × Rs :=
  if (mayR 60 x).1 = true then ((cutC 62 (mayR 60 x).2.s).1, ⟨(cutC 62 (mayR 60 x).2.s).2.1, x.bad || !(cutC 62 (mayR 60 x).2.s).2.2⟩)
  else (x.s.take (ltN x.s), ⟨x.s.drop (ltN x.s), x.bad⟩)
set_option maxRecDepth 20000 in
set_option maxHeartbeats 6400000 in
theorem rname_any (g : Nat) (x : Rs) (w : World) (h : Rd w g x) (hx : x.s.length ≤ 100000) :
    Calls Tryd.prog 26 #[.pointer (some ⟨g, 0, none⟩)] w fun e w' => e = .returned (.string (B (nameR x).1)) ∧ Rd w' g (nameR x).2 ∧ KB g w w' := by
  have hm := may_any g 60 x w h
  rcases may_cases 60 x with ⟨r, h1, h2⟩ | ⟨h1, h2⟩
  · have HN : nameR x = ((cutC 62 r).1, ⟨(cutC 62 r).2.1, x.bad || !(cutC 62 r).2.2⟩) := by unfold nameR; rw [h2]; rfl
    rw [h2] at hm
    have hr : r.length ≤ 100000 := by have := congrArg List.length h1; rw [List.length_cons] at this; omega
    have hc := fun W => cut_c 62 (B r) W (by rw [B_len]; unfold maxLen; omega)
    simp only [CutR, show L (B r) = r from rfl] at hc
    rw [HN]
    clear HN h1 h2
    obtain ⟨a1, ha1⟩ : ∃ q, (cutC 62 r).1 = q := ⟨_, rfl⟩
    obtain ⟨a2, ha2⟩ : ∃ q, (cutC 62 r).2.1 = q := ⟨_, rfl⟩
    obtain ⟨a3, ha3⟩ : ∃ q, (cutC 62 r).2.2 = q := ⟨_, rfl⟩
    simp only [ha1, ha2, ha3] at hc ⊢
    clear ha1 ha2 ha3
    go_enter Tryd.func26, Tryd.ntmps26
    go_wp2_with fail
    refine hm.mono ?_; rintro e W ⟨rfl, q1, k1⟩
    have c0 : W.cell? ⟨g, 0, none⟩ = some (.string (B r)) := q1.cell 0
    clear hm
    go_wp2_with fail
    refine (hc _).mono ?_; rintro e W2 ⟨rfl, hb⟩
    have q2 : Blk W2 g 54 #[.string (B r), .bool x.bad] := q1.below hb q1.lt
    have k2 := k1.trans (KB.of hb)
    have f0 : W2.frozen? ⟨g, 0, none⟩ = false := q2.frozen 0
    have f1 : W2.frozen? ⟨g, 1, none⟩ = false := q2.frozen 1
    have d0 : W2.cell? ⟨g, 0, none⟩ = some (.string (B r)) := q2.cell 0
    have d1 : W2.cell? ⟨g, 1, none⟩ = some (.bool x.bad) := q2.cell 1
    clear hc c0 hb q1 k1
    cases a3 with
    | true =>
      go_wp2_with fail
      go_ret
      exact ⟨rfl, by have := q2.set_ 0 (.string (B a2)); unfold Rd; rw [Bool.not_true, Bool.or_false]; exact this, k2.set 0 _⟩
    | false =>
      go_wp2_with fail
      go_ret
      exact ⟨rfl, by have := (q2.set_ 1 (.bool true)).set_ 0 (.string (B a2)); unfold Rd; rw [Bool.not_false, Bool.or_true]; exact this, (k2.set 1 _).set 0 _⟩
  · have HN : nameR x = (x.s.take (ltN x.s), ⟨x.s.drop (ltN x.s), x.bad⟩) := by unfold nameR; rw [h1]; rfl
    rw [h1] at hm
    obtain ⟨s, hs⟩ : ∃ s, B x.s = s := ⟨_, rfl⟩
    have hsz : s.size ≤ 100000 := by rw [← hs, B_len]; exact hx
    have hls : L s = x.s := by rw [← hs]
    have hlt := fun W => letters_any s W (by unfold maxLen; omega)
    have hle := ltN_le (L s)
    rw [L_len] at hle
    have HX1 := Lib.hid (ext_take s (ltN (L s))); have HX2 := Lib.hid (ext_drop s (ltN (L s)))
    rw [← hls] at HN
    have HN2 := Lib.hid HN
    clear HN h1 h2
    generalize ltN (L s) = n at *
    have hnI : (n : Int) ≤ (s.size : Int) := by omega
    go_enter Tryd.func26, Tryd.ntmps26
    go_wp2_with fail
    refine hm.mono ?_; rintro e W ⟨rfl, q1, k1⟩
    have q2 : Blk W g 54 #[.string s, .bool x.bad] := by rw [← hs]; exact q1
    have c0 : W.cell? ⟨g, 0, none⟩ = some (.string s) := q2.cell 0
    have f0 : W.frozen? ⟨g, 0, none⟩ = false := q2.frozen 0
    clear hm q1 hls hs
    go_wp2_with fail
    refine (hlt _).mono ?_; rintro e W2 ⟨rfl, rfl⟩
    clear hlt
    go_wp2_with fail
    go_ret
    refine ⟨?_, ?_, k1.set 0 _⟩
    · rw [HN2.out, ← HX1.out]; rfl
    · rw [HN2.out]
      have := q2.set_ 0 (.string (s.extract n s.size))
      rw [HX2.out] at this ⊢
      exact this
end Go.Proofs.YtgdgkgeoigljcaaDoor.Fo
