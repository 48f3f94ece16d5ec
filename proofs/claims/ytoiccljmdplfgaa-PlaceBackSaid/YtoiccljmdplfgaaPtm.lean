/-
  THE TEXT OF PLACES, in plain Lean: it is read as they were.
-/
import Derived.Test.YtoiccljmdplfgaaHexL
import Derived.Test.YtoiccljmdplfgaaPar
namespace Go.Proofs.Ytoiccljmdplfgaa.Nr
open Go.ChangeShapes Go.WideShapes Go.ChangeAt Go.RowKit Go.Shelf
open Go.Proofs.Ytoiccljmdplfgaa
open Go.Proofs.Ytoiccljmdplfgaa.Pl
open Go.Proofs.Ytoiccljmdplfgaa.Nv
open Go.Proofs.Ytoiccljmdplfgaa.Pt (L B L_len ptE ptV pT txtT txtE digB digs digs_dig angT sgB pT_len pt_back ptE_back)
open Go.Proofs.Ytoiccljmdplfgaa.Scn
set_option linter.unusedVariables false
theorem kind_z {b : UInt8} (h : (97 ≤ b.toNat ∧ b.toNat ≤ 122) ∨ (65 ≤ b.toNat ∧ b.toNat ≤ 90) ∨ b.toNat = 95 ∨ (48 ≤ b.toNat ∧ b.toNat ≤ 57) ∨ b.toNat = 43 ∨ b.toNat = 45 ∨ b.toNat = 47) : kindN b = 0 := by
  unfold kindN
  rw [if_neg (by omega), if_neg (by omega), if_neg (by omega), if_neg (by omega)]
theorem mem_chr {s : ByteArray} {b : UInt8} (h : b ∈ L s) : ∃ i, i < s.size ∧ chr s i = (b.toNat : Int) := by
  obtain ⟨i, hi, e⟩ := List.getElem_of_mem h
  rw [L_len] at hi
  refine ⟨i, hi, ?_⟩
  unfold chr
  rw [List.getD_eq_getElem?_getD, List.getElem?_eq_getElem (by rw [L_len]; exact hi)]
  show ((L s)[i].toNat : Int) = _
  rw [e]
theorem tt_kind {s : ByteArray} (h : ttB s = true) : (∀ b ∈ L s, kindN b = 0) ∧ 1 ≤ s.size ∧ s.size ≤ 8 := by
  unfold ttB at h
  rw [Bool.and_eq_true, decide_eq_true_eq, List.all_eq_true] at h
  refine ⟨fun b hb => ?_, h.1⟩
  obtain ⟨i, hi, e⟩ := mem_chr hb
  have := h.2 i (List.mem_range.2 hi)
  rw [e] at this
  unfold ttC at this
  rw [decide_eq_true_eq] at this
  exact kind_z (by omega)
theorem nm_kind {s : ByteArray} (h : nmB s = true) : (∀ b ∈ L s, kindN b = 0) ∧ 1 ≤ s.size ∧ s.size ≤ 64 := by
  unfold nmB at h
  rw [Bool.and_eq_true, decide_eq_true_eq, List.all_eq_true] at h
  refine ⟨fun b hb => ?_, h.1⟩
  obtain ⟨i, hi, e⟩ := mem_chr hb
  have := h.2 i (List.mem_range.2 hi)
  rw [e] at this
  unfold okC at this
  rw [Bool.or_eq_true, Bool.and_eq_true, decide_eq_true_eq, decide_eq_true_eq, decide_eq_true_eq] at this
  exact kind_z (by omega)
theorem dig_kind {l : List UInt8} (h : l.all digB = true) : ∀ b ∈ l, kindN b = 0 := fun b hb => by
  have := List.all_eq_true.1 h b hb
  unfold digB at this
  rw [decide_eq_true_eq] at this
  exact kind_z (by omega)
theorem ang_kind (n : Int) (w : Nat) (s : Bool) : ∀ b ∈ angT n w s, kindN b = 0 := fun b hb => by
  unfold angT at hb
  rw [List.mem_cons, List.mem_append, List.mem_append] at hb
  rcases hb with h | h | h | h
  · subst h; unfold sgB; split <;> decide
  · exact dig_kind (digs_dig _ _) b h
  · exact dig_kind (digs_dig _ _) b h
  · cases s with
    | true => exact dig_kind (digs_dig _ _) b h
    | false => cases h
theorem pT_kind (p : P2) : (∀ b ∈ pT p, kindN b = 0) ∧ 1 ≤ (pT p).length ∧ (pT p).length ≤ 15 := by
  refine ⟨fun b hb => ?_, ?_⟩
  · unfold pT at hb
    rcases List.mem_append.1 hb with h | h
    · exact ang_kind _ _ _ b h
    · exact ang_kind _ _ _ b h
  · rw [pT_len]; split <;> omega
/-- a place's line -/
abbrev pcX (a : Pc) : List ByteArray := [a.t, B (pT a.p), a.z]
def pcN (a : Pc) : List UInt8 := lineV (pcX a)
theorem ok_parts {a : Pc} (h : a.okB = true) : ttB a.t = true ∧ a.p.ok = true ∧ nmB a.z = true := by
  unfold Pc.okB at h
  rw [Bool.and_eq_true, Bool.and_eq_true] at h
  exact h
theorem pcX_kind {a : Pc} (h : a.okB = true) : ∀ x ∈ pcX a, (∀ b ∈ L x, kindN b = 0) ∧ 1 ≤ x.size ∧ x.size ≤ 64 := by
  obtain ⟨h1, h2, h3⟩ := ok_parts h
  intro x hx
  simp only [List.mem_cons, List.not_mem_nil, or_false] at hx
  rcases hx with rfl | rfl | rfl
  · obtain ⟨k1, k2, k3⟩ := tt_kind h1; exact ⟨k1, k2, by omega⟩
  · obtain ⟨k1, k2, k3⟩ := pT_kind a.p
    exact ⟨k1, by rw [B_len]; omega, by rw [B_len]; omega⟩
  · exact nm_kind h3
theorem quo_all {x : ByteArray} (h : ∀ b ∈ L x, kindN b = 0) (h1 : 1 ≤ x.size) : quoV (L x) = L x := by
  have hl := L_len x
  cases e : L x with
  | nil => rw [e] at hl; simp at hl; omega
  | cons b t => exact quo_plain (by rw [← e]; exact h)
theorem pcN_eq {a : Pc} (h : a.okB = true) : pcN a = L a.t ++ 32 :: (pT a.p ++ 32 :: L a.z) := by
  have hk := pcX_kind h
  have e1 := quo_all (hk a.t (by simp)).1 (hk a.t (by simp)).2.1
  have e2 := quo_all (hk (B (pT a.p)) (by simp)).1 (hk (B (pT a.p)) (by simp)).2.1
  have e3 := quo_all (hk a.z (by simp)).1 (hk a.z (by simp)).2.1
  show Lib.join [quoV (L a.t), quoV (L (B (pT a.p))), quoV (L a.z)] [32] = _
  rw [e1, e2, e3, join_two, join_two, Lib.join_one]
theorem pcN_len {a : Pc} (h : a.okB = true) : (pcN a).length ≤ 90 := by
  rw [pcN_eq h]
  have h1 := (tt_kind (ok_parts h).1).2; have h2 := (pT_kind a.p).2; have h3 := (nm_kind (ok_parts h).2.2).2
  simp only [List.length_append, List.length_cons, L_len]
  omega
theorem pc_join {a : Pc} (h : a.okB = true) : joiE (pcX a) = 0 := by
  unfold joiE
  have hb : (pcX a).any (fun x => (L x).any badB) = false := by
    rw [List.any_eq_false]
    intro x hx
    rw [Bool.not_eq_true, List.any_eq_false]
    intro b hb
    have := (pcX_kind h x hx).1 b hb
    simp [badB, this]
  have hl := pcN_len h
  unfold pcN at hl
  rw [if_neg (by show ¬ 24 < 3; decide), hb, if_neg (by decide), if_neg (by omega)]
theorem pcN_nl {a : Pc} (h : a.okB = true) : ∀ b ∈ pcN a, b ≠ 10 := by
  rw [pcN_eq h]
  intro b hb e
  subst e
  have hk := pcX_kind h
  simp only [List.mem_append, List.mem_cons] at hb
  have k10 : kindN 10 ≠ 0 := by decide
  rcases hb with q | q | q | q | q
  · exact k10 ((hk a.t (by simp)).1 _ q)
  · cases q
  · exact k10 ((pT_kind a.p).1 _ q)
  · cases q
  · exact k10 ((hk a.z (by simp)).1 _ q)
theorem pcN_fds {a : Pc} (h : a.okB = true) : ∃ l, fds (pcN a) = .ok l ∧ l.map (·.1) = [L a.t, pT a.p, L a.z] := by
  have hk := pcX_kind h
  have hl := pcN_len h
  unfold fds
  rw [if_neg (by omega)]
  have := fld_line [L a.t, pT a.p, L a.z] (fun y hy => by
    simp only [List.mem_cons, List.not_mem_nil, or_false] at hy
    rcases hy with rfl | rfl | rfl
    · exact (hk a.t (by simp)).1
    · exact (pT_kind a.p).1
    · exact (hk a.z (by simp)).1) 0 [] 0 [] 0 (by show 0 + 3 ≤ 24; decide)
  obtain ⟨l, h1, h2⟩ := this
  exact ⟨l, h1, h2⟩
theorem pc_prs {a : Pc} (h : a.okB = true) {l : List Fl} (hl : l.map (·.1) = [L a.t, pT a.p, L a.z]) : prs l = .ok a := by
  obtain ⟨h1, h2, h3⟩ := ok_parts h
  have hl3 : l.length = 3 := by have := congrArg List.length hl; simpa using this
  match l, hl3, hl with
  | [f0, f1, f2], _, hl =>
    simp only [List.map_cons, List.map_nil, List.cons.injEq, and_true] at hl
    obtain ⟨e0, e1, e2⟩ := hl
    have q0 : B f0.1 = a.t := by rw [e0]
    have q2 : B f2.1 = a.z := by rw [e2]
    have := prs_5 (l := [f0, f1, f2]) (by show ¬ 3 < 3; decide) (by show ttB (B f0.1) = true; rw [q0]; exact h1) (by show ptE f1.1 = 0; rw [e1]; exact ptE_back h2) (by show nmB (B f2.1) = true; rw [q2]; exact h3)
    rw [this]
    show PR.ok ⟨B f0.1, ptV f1.1, B f2.1⟩ = _
    rw [q0, q2, e1, (pt_back h2).2]
/-- the text of places -/
def txtL : List Pc → List UInt8
  | [] => []
  | a :: l => pcN a ++ 10 :: txtL l
theorem txt_snoc (l : List Pc) (a : Pc) : txtL (l ++ [a]) = txtL l ++ (pcN a ++ [10]) := by
  induction l with
  | nil => rfl
  | cons b l ih => show pcN b ++ 10 :: txtL (l ++ [a]) = (pcN b ++ 10 :: txtL l) ++ _; rw [ih]; simp
theorem txt_len : ∀ l : List Pc, (∀ a ∈ l, a.okB = true) → (txtL l).length ≤ l.length * 91
  | [], _ => Nat.le_refl _
  | a :: l, h => by
    have h1 := pcN_len (h a (by simp)); have h2 := txt_len l (fun b hb => h b (by simp [hb]))
    show (pcN a ++ 10 :: txtL l).length ≤ _
    rw [List.length_append, List.length_cons, List.length_cons, Nat.succ_mul]; omega
theorem txt_pars : ∀ (l : List Pc), (∀ a ∈ l, a.okB = true) → ∀ (f no : Nat) (acc : List (Nat × List Fl)), (txtL l).length < f →
    ∃ r, lnF f (txtL l) no acc = .ok (acc ++ r) ∧ r.length = l.length ∧ ∀ (done : List Pc), done.length + l.length ≤ 4096 → pars r done = .ok (done ++ l)
  | [], _, f, no, acc, hf => by
    obtain ⟨f, rfl⟩ : ∃ g, f = g + 1 := ⟨f - 1, by omega⟩
    refine ⟨[], ?_, rfl, fun done _ => by rw [List.append_nil]; rfl⟩
    have e : fds (cutL (txtL [])).1 = .ok [] := by
      show fds [] = .ok []
      unfold fds; rw [if_neg (by decide), f0n]
    rw [ln_last e rfl, List.append_nil]; rfl
  | a :: l, h, f, no, acc, hf => by
    obtain ⟨f, rfl⟩ : ∃ g, f = g + 1 := ⟨f - 1, by omega⟩
    have ha := h a (by simp)
    have hc : cutL (txtL (a :: l)) = (pcN a, txtL l, true) := cut_line _ _ (pcN_nl ha)
    obtain ⟨fs, h1, h2⟩ := pcN_fds ha
    have hlen : (txtL l).length < f := by
      have : (txtL (a :: l)).length = (pcN a).length + (txtL l).length + 1 := by
        show (pcN a ++ 10 :: txtL l).length = _
        rw [List.length_append, List.length_cons]; omega
      omega
    obtain ⟨r, k1, k2, k3⟩ := txt_pars l (fun b hb => h b (by simp [hb])) f (no + 1) (acc ++ [(no, fs)]) hlen
    refine ⟨(no, fs) :: r, ?_, by simp [k2], fun done hd => ?_⟩
    · have e : fds (cutL (txtL (a :: l))).1 = .ok fs := by rw [hc]; exact h1
      rw [ln_more e (by rw [hc])]
      have ea : addL acc no fs = acc ++ [(no, fs)] := by
        unfold addL
        cases fs with
        | nil => simp at h2
        | cons _ _ => rfl
      rw [ea, hc, k1]; simp
    · rw [List.length_cons] at hd
      rw [pars, pc_prs ha h2]
      simp only
      rw [if_neg (by omega), k3 (done ++ [a]) (by rw [List.length_append, List.length_singleton]; omega)]; simp
/-- right places are read from their text -/
theorem txt_back {l : List Pc} (h : pcE l = 0) : parV (txtL l) = .ok l := by
  have hn : l.length ≤ 4096 ∧ ∀ a ∈ l, a.okB = true := by
    unfold pcE at h
    by_cases q : 4096 < l.length
    · rw [if_pos q] at h; simp at h
    · rw [if_neg q] at h
      by_cases q2 : pcsB l = true
      · exact ⟨by omega, List.all_eq_true.1 q2⟩
      · rw [if_neg q2] at h; simp at h
  obtain ⟨r, h1, h2, h3⟩ := txt_pars l hn.2 ((txtL l).length + 1) 1 [] (by omega)
  unfold parV lnV
  rw [h1]
  show pars ([] ++ r) [] = _
  rw [List.nil_append, h3 [] (by simpa using hn.1)]; rfl
theorem ptV_ok {l : List UInt8} (h : ptE l = 0) : (ptV l).ok = true ∧ pT (ptV l) = l := by
  unfold ptE at h
  by_cases q : Pt.ptB l = true
  · unfold ptV
    rw [if_pos q]
    unfold Pt.ptB at q
    simp only [Bool.and_eq_true, decide_eq_true_eq] at q
    exact q.2.2
  · rw [if_neg q] at h; simp at h
theorem pcE_mem {l : List Pc} (h : pcE l = 0) : l.length ≤ 4096 ∧ ∀ a ∈ l, a.okB = true := by
  unfold pcE at h
  by_cases q : 4096 < l.length
  · rw [if_pos q] at h; simp at h
  · rw [if_neg q] at h
    by_cases q2 : pcsB l = true
    · exact ⟨by omega, List.all_eq_true.1 q2⟩
    · rw [if_neg q2] at h; simp at h
/-- what is read is right -/
theorem pars_right : ∀ (r : List (Nat × List Fl)) (acc l : List Pc), acc.length ≤ 4096 → (∀ a ∈ acc, a.okB = true) → pars r acc = .ok l → pcE l = 0
  | [], acc, l, hn, ha, h => by
    cases h
    unfold pcE
    rw [if_neg (by omega), if_pos (show pcsB acc = true from List.all_eq_true.2 ha)]
  | x :: r, acc, l, hn, ha, h => by
    rw [pars] at h
    cases e : prs x.2 with
    | bad c y => rw [e] at h; cases h
    | ok a =>
      rw [e] at h
      simp only at h
      by_cases q : 4096 ≤ acc.length
      · rw [if_pos q] at h; cases h
      · rw [if_neg q] at h
        refine pars_right r (acc ++ [a]) l (by rw [List.length_append, List.length_singleton]; omega) (fun b hb => ?_) h
        rcases List.mem_append.1 hb with q1 | q1
        · exact ha b q1
        · rw [List.mem_singleton.1 q1]
          obtain ⟨e1, _, e2, e3, e4⟩ := prs_right e
          subst e1
          unfold Pc.okB
          rw [e2, e4]
          have : (ptV (fl_ x.2 1).1).ok = true := (ptV_ok e3).1
          rw [this]; rfl
end Go.Proofs.Ytoiccljmdplfgaa.Nr
