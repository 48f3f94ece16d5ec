/-
  THE LINES OF A TEXT, in plain Lean.
-/
import Derived.Test.YtoiccljmdplfgaaFld
import Derived.Lib.IndexLaws
namespace Go.Proofs.Ytoiccljmdplfgaa.Scn
set_option linter.unusedVariables false
/-- a text up to its first line's end, what is behind, and whether there is one -/
def cutL : List UInt8 → List UInt8 × List UInt8 × Bool
  | [] => ([], [], false)
  | b :: r => if b = 10 then ([], r, true) else (b :: (cutL r).1, (cutL r).2.1, (cutL r).2.2)
theorem cut_idx : ∀ l : List UInt8, (Lib.indexByte l 10 = -1 ∧ cutL l = (l, [], false)) ∨ ∃ k : Nat, Lib.indexByte l 10 = (k : Int) ∧ k < l.length ∧ cutL l = (l.take k, l.drop (k + 1), true)
  | [] => .inl ⟨rfl, rfl⟩
  | b :: r => by
    by_cases h : b = 10
    · subst h
      exact .inr ⟨0, by simp [Lib.indexByte], by simp, by simp [cutL]⟩
    · have hb : (b == 10) = false := beq_eq_false_iff_ne.2 h
      rcases cut_idx r with ⟨h1, h2⟩ | ⟨k, h1, h2, h3⟩
      · exact .inl ⟨by simp [Lib.indexByte, hb, h1], by simp [cutL, h, h2]⟩
      · refine .inr ⟨k + 1, ?_, by simpa using h2, by simp [cutL, h, h3]⟩
        have : ((k : Int) == -1) = false := by rw [beq_eq_false_iff_ne]; omega
        simp [Lib.indexByte, hb, h1, this]
theorem cut_len (l : List UInt8) : (cutL l).1.length ≤ l.length ∧ (cutL l).2.1.length ≤ l.length ∧ ((cutL l).2.2 = true → (cutL l).2.1.length < l.length) := by
  rcases cut_idx l with ⟨_, h⟩ | ⟨k, _, hk, h⟩
  · rw [h]; exact ⟨Nat.le_refl _, Nat.zero_le _, fun h => by cases h⟩
  · rw [h]
    refine ⟨List.length_take_le' _ _, ?_, fun _ => ?_⟩
    · show (l.drop (k + 1)).length ≤ _; rw [List.length_drop]; omega
    · show (l.drop (k + 1)).length < _; rw [List.length_drop]; omega
/-- a line's end behind a line -/
theorem cut_line : ∀ (x r : List UInt8), (∀ b ∈ x, b ≠ 10) → cutL (x ++ 10 :: r) = (x, r, true)
  | [], r, _ => by simp [cutL]
  | b :: x, r, h => by
    have hb : b ≠ 10 := h b (by simp)
    rw [List.cons_append, cutL, if_neg hb, cut_line x r (fun c hc => h c (by simp [hc]))]
/-- the fields of any line -/
def fds (l : List UInt8) : FR := if 2048 < l.length then .bad 2049 6 else fld l 0 0 [] 0 [] 0
inductive LR where
  | ok (l : List (Nat × List Fl))
  | bad (ln col : Nat) (why : Int)
def addL (acc : List (Nat × List Fl)) (no : Nat) (fs : List Fl) : List (Nat × List Fl) := if fs.isEmpty then acc else acc ++ [(no, fs)]
/-- the lines of what is left of a text -/
def lnF : Nat → List UInt8 → Nat → List (Nat × List Fl) → LR
  | 0, _, _, acc => .ok acc
  | f + 1, t, no, acc => match fds (cutL t).1 with
    | .bad c y => .bad no c y
    | .ok fs => if (cutL t).2.2 then lnF f (cutL t).2.1 (no + 1) (addL acc no fs) else .ok (addL acc no fs)
def lnV (t : List UInt8) : LR := lnF (t.length + 1) t 1 []
theorem ln_bad {f : Nat} {t : List UInt8} {no c : Nat} {acc : List (Nat × List Fl)} {y : Int} (h : fds (cutL t).1 = .bad c y) : lnF (f + 1) t no acc = .bad no c y := by
  rw [lnF, h]
theorem ln_more {f : Nat} {t : List UInt8} {no : Nat} {acc : List (Nat × List Fl)} {fs : List Fl} (h : fds (cutL t).1 = .ok fs) (h2 : (cutL t).2.2 = true) : lnF (f + 1) t no acc = lnF f (cutL t).2.1 (no + 1) (addL acc no fs) := by
  rw [lnF, h]; simp only [h2, if_true]
theorem ln_last {f : Nat} {t : List UInt8} {no : Nat} {acc : List (Nat × List Fl)} {fs : List Fl} (h : fds (cutL t).1 = .ok fs) (h2 : (cutL t).2.2 = false) : lnF (f + 1) t no acc = .ok (addL acc no fs) := by
  rw [lnF, h]; simp only [h2]; rfl
/-- what is wrong is told by a number that is not 0, and a column from 1 on; fields have such columns -/
def FR.fine : FR → Prop
  | .ok l => ∀ f ∈ l, 1 ≤ f.2
  | .bad c y => 1 ≤ c ∧ y ≠ 0
theorem fld_fine : ∀ (l : List UInt8) (m p : Nat) (acc : List Fl) (bg : Nat) (tx : List UInt8) (q : Nat), (∀ f ∈ acc, 1 ≤ f.2) → (m ≠ 0 → 1 ≤ bg) → (m ≠ 0 → m ≠ 1 → 1 ≤ q) → (fld l m p acc bg tx q).fine
  | [], m, p, acc, bg, tx, q, h1, h2, h3 => by
    unfold fld
    split
    · exact h1
    · split
      · rename_i h _
        intro f hf
        rcases List.mem_append.1 hf with h' | h'
        · exact h1 f h'
        · rw [List.mem_singleton.1 h']; exact h2 h
      · rename_i h h'
        exact ⟨h3 h h', by decide⟩
  | b :: r, m, p, acc, bg, tx, q, h1, h2, h3 => by
    have ha : m ≠ 0 → ∀ f ∈ acc ++ [(tx, bg)], 1 ≤ f.2 := fun h f hf => by
      rcases List.mem_append.1 hf with h' | h'
      · exact h1 f h'
      · rw [List.mem_singleton.1 h']; exact h2 h
    have hb : ∀ y : Int, y ≠ 0 → (FR.bad (p + 1) y).fine := fun y hy => ⟨Nat.le_add_left _ _, hy⟩
    unfold fld
    split
    · split
      · exact fld_fine r _ _ _ _ _ _ h1 (fun h => absurd rfl h) (fun h => absurd rfl h)
      · split
        · exact h1
        · split
          · exact hb _ (by decide)
          · split
            · exact hb _ (by decide)
            · split
              · exact fld_fine r _ _ _ _ _ _ h1 (fun _ => Nat.le_add_left _ _) (fun _ _ => Nat.le_add_left _ _)
              · exact fld_fine r _ _ _ _ _ _ h1 (fun _ => Nat.le_add_left _ _) (fun _ h => absurd rfl h)
    · rename_i hm
      split
      · split
        · exact fld_fine r _ _ _ _ _ _ (ha hm) (fun h => absurd rfl h) (fun h => absurd rfl h)
        · split
          · exact ha hm
          · split
            · exact hb _ (by decide)
            · split
              · exact fld_fine r _ _ _ _ _ _ h1 (fun _ => h2 hm) (fun _ _ => Nat.le_add_left _ _)
              · exact fld_fine r _ _ _ _ _ _ h1 (fun _ => h2 hm) (fun _ h => absurd rfl h)
      · rename_i hm1
        split
        · exact hb _ (by decide)
        · split
          · exact fld_fine r _ _ _ _ _ _ h1 (fun _ => h2 hm) (fun _ h => absurd rfl h)
          · exact fld_fine r _ _ _ _ _ _ h1 (fun _ => h2 hm) (fun _ _ => h3 hm hm1)
theorem fds_fine (l : List UInt8) : (fds l).fine := by
  unfold fds
  split
  · exact ⟨by decide, by decide⟩
  · exact fld_fine l _ _ _ _ _ _ (fun f hf => absurd hf List.not_mem_nil) (fun h => absurd rfl h) (fun h => absurd rfl h)
def LR.fine : LR → Prop
  | .ok l => ∀ x ∈ l, x.2 ≠ [] ∧ ∀ f ∈ x.2, 1 ≤ f.2
  | .bad n c y => 1 ≤ n ∧ 1 ≤ c ∧ y ≠ 0
theorem add_fine {acc : List (Nat × List Fl)} {no : Nat} {fs : List Fl} (h1 : ∀ x ∈ acc, x.2 ≠ [] ∧ ∀ f ∈ x.2, 1 ≤ f.2) (h2 : ∀ f ∈ fs, 1 ≤ f.2) : ∀ x ∈ addL acc no fs, x.2 ≠ [] ∧ ∀ f ∈ x.2, 1 ≤ f.2 := by
  unfold addL
  cases fs with
  | nil => exact h1
  | cons a t =>
    intro x hx
    rcases List.mem_append.1 hx with h | h
    · exact h1 x h
    · rw [List.mem_singleton.1 h]; exact ⟨List.cons_ne_nil _ _, h2⟩
theorem lnF_fine : ∀ (f : Nat) (t : List UInt8) (no : Nat) (acc : List (Nat × List Fl)), 1 ≤ no → (∀ x ∈ acc, x.2 ≠ [] ∧ ∀ f ∈ x.2, 1 ≤ f.2) → (lnF f t no acc).fine
  | 0, _, _, _, _, h => h
  | f + 1, t, no, acc, hn, h => by
    have := fds_fine (cutL t).1
    cases e : fds (cutL t).1 with
    | bad c y => rw [e] at this; rw [ln_bad e]; exact ⟨hn, this⟩
    | ok fs =>
      rw [e] at this
      cases e2 : (cutL t).2.2 with
      | true => rw [ln_more e e2]; exact lnF_fine f _ _ _ (Nat.le_add_left _ _) (add_fine h this)
      | false => rw [ln_last e e2]; exact add_fine h this
theorem lnV_fine (t : List UInt8) : (lnV t).fine := lnF_fine _ _ _ _ (Nat.le_refl _) (fun x hx => absurd hx List.not_mem_nil)
def FR.txt (K : Nat) : FR → Prop
  | .ok l => ∀ f ∈ l, f.1.length ≤ K
  | .bad _ _ => True
theorem fld_txt (K : Nat) : ∀ (l : List UInt8) (m p : Nat) (acc : List Fl) (bg : Nat) (tx : List UInt8) (q : Nat), (∀ f ∈ acc, f.1.length ≤ K) → tx.length + l.length ≤ K → (fld l m p acc bg tx q).txt K
  | [], m, p, acc, bg, tx, q, h1, h2 => by
    unfold fld
    split
    · exact h1
    · split
      · intro f hf
        rcases List.mem_append.1 hf with h' | h'
        · exact h1 f h'
        · rw [List.mem_singleton.1 h']; exact Nat.le_trans (Nat.le_add_right _ _) h2
      · trivial
  | b :: r, m, p, acc, bg, tx, q, h1, h2 => by
    rw [List.length_cons] at h2
    have ha : ∀ f ∈ acc ++ [(tx, bg)], f.1.length ≤ K := fun f hf => by
      rcases List.mem_append.1 hf with h' | h'
      · exact h1 f h'
      · rw [List.mem_singleton.1 h']; show tx.length ≤ K; omega
    have e0 : tx.length + r.length ≤ K := by omega
    have e1 : (tx ++ [b]).length + r.length ≤ K := by rw [List.length_append, List.length_singleton]; omega
    have e2 : ([b] : List UInt8).length + r.length ≤ K := by rw [List.length_singleton]; omega
    have e3 : ([] : List UInt8).length + r.length ≤ K := by rw [List.length_nil]; omega
    unfold fld
    repeat' split
    all_goals first
      | exact trivial
      | exact h1
      | exact ha
      | exact fld_txt K r _ _ _ _ _ _ ha e0
      | exact fld_txt K r _ _ _ _ _ _ h1 e0
      | exact fld_txt K r _ _ _ _ _ _ h1 e1
      | exact fld_txt K r _ _ _ _ _ _ h1 e2
      | exact fld_txt K r _ _ _ _ _ _ h1 e3
theorem fds_txt (l : List UInt8) : (fds l).txt 2048 := by
  unfold fds
  split
  · trivial
  · exact fld_txt 2048 l _ _ _ _ _ _ (fun f hf => absurd hf List.not_mem_nil) (by rw [List.length_nil]; omega)
def LR.txt : LR → Prop
  | .ok l => ∀ x ∈ l, ∀ f ∈ x.2, f.1.length ≤ 2048
  | .bad _ _ _ => True
theorem add_txt {acc : List (Nat × List Fl)} {no : Nat} {fs : List Fl} (h1 : ∀ x ∈ acc, ∀ f ∈ x.2, f.1.length ≤ 2048) (h2 : ∀ f ∈ fs, f.1.length ≤ 2048) : ∀ x ∈ addL acc no fs, ∀ f ∈ x.2, f.1.length ≤ 2048 := by
  unfold addL
  cases fs with
  | nil => exact h1
  | cons a t =>
    intro x hx
    rcases List.mem_append.1 hx with h | h
    · exact h1 x h
    · rw [List.mem_singleton.1 h]; exact h2
theorem lnF_txt : ∀ (f : Nat) (t : List UInt8) (no : Nat) (acc : List (Nat × List Fl)), (∀ x ∈ acc, ∀ f ∈ x.2, f.1.length ≤ 2048) → (lnF f t no acc).txt
  | 0, _, _, _, h => h
  | f + 1, t, no, acc, h => by
    have := fds_txt (cutL t).1
    cases e : fds (cutL t).1 with
    | bad c y => rw [ln_bad e]; trivial
    | ok fs =>
      rw [e] at this
      cases e2 : (cutL t).2.2 with
      | true => rw [ln_more e e2]; exact lnF_txt f _ _ _ (add_txt h this)
      | false => rw [ln_last e e2]; exact add_txt h this
theorem lnV_txt (t : List UInt8) : (lnV t).txt := lnF_txt _ _ _ _ (fun x hx => absurd hx List.not_mem_nil)
end Go.Proofs.Ytoiccljmdplfgaa.Scn
