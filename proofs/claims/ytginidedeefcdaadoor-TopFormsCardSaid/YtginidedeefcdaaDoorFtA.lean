/-
  A RECORD FOR A YEAR: whatever a right record's spans are, there is no reason against a record of them (plain Lean).
-/
import Derived.Test.YtginidedeefcdaaDoorFtO
namespace Go.Proofs.YtginidedeefcdaaDoor.Ft
open Go.ChangeShapes Go.WideShapes Go.ChangeAt Go.RowKit
open Go.Proofs.YtginidedeefcdaaDoor
open Go.Proofs.YtginidedeefcdaaDoor.Wd
open Go.Proofs.YtginidedeefcdaaDoor.Rec
open Go.Proofs.YtginidedeefcdaaDoor.Yr
open Go.Proofs.YtginidedeefcdaaDoor.Tb
open Go.Proofs.YtginidedeefcdaaDoor.Clk (yrV yrE)
set_option linter.unusedVariables false
theorem sec_in {s : St} {Y off : Int} (B : s.Bd) (h : secV s Y off < begY (Y + 1)) (h2 : Y ≤ 9999) (h1 : 1 ≤ Y) (ho : -86400 ≤ off ∧ off ≤ 86400) : begY Y ≤ secV s Y off + off ∧ secV s Y off + off ≤ begY (Y + 1) := by
  have hb := begY_bd h1 h2
  by_cases he : leS s Y = 0
  · have hs : secV s Y off = (lcS s Y + 999) / 1000 - off := by unfold secV; rw [if_pos he]
    obtain ⟨hok, e1, e2, hY1, hY2, m1, m2, v6, h23, i59, s59, u999, d1⟩ := Stp.dt_ok B he
    obtain ⟨_, _, _, _, b5, b6, b7, b8⟩ := B
    have hnb := Cal.num_bd _ _ _ hok
    have el : lcS s Y = Cal.num (Stp.dtY s.y s.m s.v s.d s.h s.i s.s s.u Y) (Stp.dtM s.y s.m s.v s.d s.h s.i s.s s.u Y) (Stp.dtD s.y s.m s.v s.d s.h s.i s.s s.u Y) * 86400000 + Stp.msT s.h s.i s.s s.u := if_pos he
    have hm : 0 ≤ Stp.msT s.h s.i s.s s.u ∧ Stp.msT s.h s.i s.s s.u < 86400000 := by unfold Stp.msT; omega
    have eY : Stp.dtY s.y s.m s.v s.d s.h s.i s.s s.u Y = Y := if_pos he
    rw [eY] at hnb el
    rw [hs, el]
    unfold begY
    generalize Cal.num Y _ _ = N at *
    omega
  · have hs : secV s Y off = 4611686018427387904 := by unfold secV; rw [if_neg he]
    rw [hs] at h; omega
theorem sum_S {S W : Int} (h : S ≠ W) : sumB S W S = true ∧ sumB S W W = false := by
  constructor
  · apply sumB_iff
    split
    · simp; omega
    · rw [if_pos (by omega)]; simp
  · apply sumB_iff
    split
    · simp
    · rw [if_pos (by omega)]; simp; omega
theorem sum_same (S t : Int) : sumB S S t = false := by unfold sumB; simp
theorem eqT_off {r : Rc} {Y t x : Int} (h : eqT (r.off Y t) (r.sum Y t) (r.off Y x) (r.sum Y x) = false) : r.sum Y t ≠ r.sum Y x := by
  intro e
  have : r.off Y t = r.off Y x := by unfold Rc.off; rw [e]
  unfold eqT at h
  rw [this, e] at h
  simp at h
theorem change_ok {r : Rc} {Y t x : Int} (B : r.Bd) (hk : r.ok = true) (h1 : 1601 ≤ Y) (h2 : Y ≤ 9999) (ht : t < begY (Y + 1)) (hm : t = r.tr Y ∨ t = r.ts Y)
    (hn : eqT (r.off Y t) (r.sum Y t) (r.off Y x) (r.sum Y x) = false) : begY Y ≤ t + r.off Y x ∧ t + r.off Y x ≤ begY (Y + 1) := by
  have hd := eqT_off hn
  obtain ⟨e1, e2⟩ := tr_rc hk h1 h2
  have nr := Rc.near hk
  by_cases hq : r.tr Y = r.ts Y
  · exfalso
    have a : ∀ z, r.sum Y z = false := fun z => by
      show sumB (trA _ _ _ _ _ Y) (trB _ _ _ _ _ Y) z = false
      have hq' : trA r.b r.c r.d r.p r.q Y = trB r.b r.c r.d r.p r.q Y := hq
      rw [hq']; exact sum_same _ _
    exact hd (by rw [a, a])
  · obtain ⟨s1, s2⟩ := sum_S hq
    rcases hm with rfl | rfl
    · have hx : r.sum Y x = false := by
        have : r.sum Y (r.tr Y) = true := s1
        rw [this] at hd
        cases h : r.sum Y x with
        | false => rfl
        | true => rw [h] at hd; exact absurd rfl hd
      have ho : r.off Y x = r.std := by unfold Rc.off; rw [hx]; rfl
      rw [ho, e1]
      rw [e1] at ht
      exact sec_in B.q ht h2 (by omega) nr.1
    · have hx : r.sum Y x = true := by
        have : r.sum Y (r.ts Y) = false := s2
        rw [this] at hd
        cases h : r.sum Y x with
        | true => rfl
        | false => rw [h] at hd; exact absurd rfl hd
      have ho : r.off Y x = r.dst := by unfold Rc.off; rw [hx]; rfl
      rw [ho, e2]
      rw [e2] at ht
      exact sec_in B.p ht h2 (by omega) nr.2
abbrev nE (r : Rc) (Y t x : Int) : Prop := eqT (r.off Y t) (r.sum Y t) (r.off Y x) (r.sum Y x) = false
theorem step_cases (r : Rc) (Y t x : Int) (L : List Sp) : spStep r Y (L, r.off Y x, r.sum Y x) t = (L, r.off Y x, r.sum Y x) ∨ (spStep r Y (L, r.off Y x, r.sum Y x) t = (L ++ [r.sp Y t], r.off Y t, r.sum Y t) ∧ begY Y < t ∧ t < begY (Y + 1) ∧ nE r Y t x) := by
  by_cases h : t ≤ begY Y ∨ begY (Y + 1) ≤ t
  · exact .inl (Tb.step_skip h)
  · cases he : eqT (r.off Y t) (r.sum Y t) (r.off Y x) (r.sum Y x) with
    | true => exact .inl (Tb.step_same h he)
    | false => exact .inr ⟨Tb.step_new h he, by omega, by omega, he⟩
theorem spl_forms (r : Rc) (Y : Int) : spL r Y = [r.sp Y (begY Y)] ∨ (∃ t, spL r Y = [r.sp Y (begY Y), r.sp Y t] ∧ begY Y < t ∧ t < begY (Y + 1) ∧ (t = r.tr Y ∨ t = r.ts Y) ∧ nE r Y t (begY Y)) ∨
    (∃ t u, spL r Y = [r.sp Y (begY Y), r.sp Y t, r.sp Y u] ∧ begY Y < t ∧ t < begY (Y + 1) ∧ begY Y < u ∧ u < begY (Y + 1) ∧ t < u ∧ (t = r.tr Y ∨ t = r.ts Y) ∧ (u = r.tr Y ∨ u = r.ts Y) ∧ nE r Y t (begY Y) ∧ nE r Y u t) := by
  rcases step_cases r Y (min (r.tr Y) (r.ts Y)) (begY Y) [r.sp Y (begY Y)] with a | ⟨a, a1, a2, a3⟩
  · have e1 : sp1 r Y = ([r.sp Y (begY Y)], r.off Y (begY Y), r.sum Y (begY Y)) := a
    rcases step_cases r Y (max (r.tr Y) (r.ts Y)) (begY Y) [r.sp Y (begY Y)] with b | ⟨b, b1, b2, b3⟩
    · left; unfold spL sp2; rw [e1, b]
    · right; left; exact ⟨_, by unfold spL sp2; rw [e1, b]; rfl, b1, b2, by omega, b3⟩
  · have e1 : sp1 r Y = ([r.sp Y (begY Y)] ++ [r.sp Y (min (r.tr Y) (r.ts Y))], r.off Y (min (r.tr Y) (r.ts Y)), r.sum Y (min (r.tr Y) (r.ts Y))) := a
    rcases step_cases r Y (max (r.tr Y) (r.ts Y)) (min (r.tr Y) (r.ts Y)) ([r.sp Y (begY Y)] ++ [r.sp Y (min (r.tr Y) (r.ts Y))]) with b | ⟨b, b1, b2, b3⟩
    · right; left; exact ⟨_, by unfold spL sp2; rw [e1, b]; rfl, a1, a2, by omega, a3⟩
    · right; right
      refine ⟨_, _, by unfold spL sp2; rw [e1, b]; rfl, a1, a2, b1, b2, ?_, by omega, by omega, a3, b3⟩
      have : max (r.tr Y) (r.ts Y) ≠ min (r.tr Y) (r.ts Y) := fun e => by
        rw [e] at b3; exact eqT_off b3 rfl
      omega
theorem off_60 (r : Rc) (Y t : Int) : r.off Y t % 60 = 0 := by
  have a : r.std % 60 = 0 := by show offS _ _ % 60 = 0; unfold offS; omega
  have b : r.dst % 60 = 0 := by show offS _ _ % 60 = 0; unfold offS; omega
  unfold Rc.off; split <;> assumption
theorem off_d {r : Rc} {Y t x : Int} (h : r.sum Y t = r.sum Y x) : r.off Y t = r.off Y x := by unfold Rc.off; rw [h]
theorem shf_sp (r : Rc) (Y t x : Int) : shfP (r.sp Y t) (r.sp Y x) = false := by
  unfold shfP
  show (r.sum Y t == r.sum Y x && r.off Y t != r.off Y x) = false
  cases h : (r.sum Y t == r.sum Y x) with
  | false => rfl
  | true => rw [off_d (by simpa using h)]; simp
/-- the spans of a right record in a year: a right list, of the year, without a reason against it -/
theorem all_law {r : Rc} {Y : Int} (B : r.Bd) (hk : r.ok = true) (h1 : 1601 ≤ Y) (h2 : Y ≤ 9999) :
    lkB (spL r Y) = true ∧ (at_ (spL r Y) 0).f = begY Y ∧ (at_ (spL r Y) ((spL r Y).length - 1)).f < begY (Y + 1) ∧ whyV (spL r Y) (begY Y) (begY (Y + 1)) = 0 := by
  have hb := begY_bd (Y := Y) (by omega) h2
  have adjS : ∀ t x, x < t → nE r Y t x → adj (r.sp Y x) (r.sp Y t) = true := fun t x hx hn => by
    unfold adj alk
    show (decide (x < t) && !(r.off Y t == r.off Y x && r.sum Y t == r.sum Y x)) = true
    have : (r.off Y t == r.off Y x && r.sum Y t == r.sum Y x) = false := hn
    rw [this]; simpa using hx
  have every : ∀ (p : Sp → Bool), (∀ t, p (r.sp Y t) = false) → (spL r Y).any p = false := fun p hp => by
    rcases spl_forms r Y with e | ⟨t, e, _⟩ | ⟨t, u, e, _⟩ <;> rw [e] <;> simp [hp]
  have hmin : minB (spL r Y) = false := every _ fun t => by rw [decide_eq_false_iff_not]; have := off_60 r Y t; show ¬ (r.off Y t % 60 ≠ 0); omega
  have hfar : farB (spL r Y) = false := every _ fun t => by rw [decide_eq_false_iff_not]; have := Rc.off_near hk Y t; show ¬ (r.off Y t < -86400 ∨ 86400 < r.off Y t); omega
  have hlen := (spL_len r Y).2
  rcases spl_forms r Y with e | ⟨t, e, a1, a2, a3, a4⟩ | ⟨t, u, e, a1, a2, b1, b2, b3, a3, c3, a4, b4⟩
  · rw [e] at hmin hfar ⊢
    refine ⟨lk_iff.2 ⟨by simp, fun i hi => by simp at hi⟩, rfl, hb.1, why_0 hmin hfar (by simp) (shf_none fun i j hi hj => by simp at hi; omega) (dat_none fun i hi hj => by simp at hj; omega)⟩
  · rw [e] at hmin hfar ⊢
    refine ⟨lk_iff.2 ⟨by simp, fun i hi => ?_⟩, rfl, a2, why_0 hmin hfar (by simp) (shf_none fun i j hi hj => ?_) (dat_none fun i hi hj => ?_)⟩
    · obtain rfl : i = 0 := by simp at hi; omega
      exact adjS _ _ a1 a4
    · obtain ⟨rfl, rfl⟩ : i = 1 ∧ j = 0 := by simp at hi; omega
      exact shf_sp r Y _ _
    · obtain rfl : i = 1 := by simp at hj; omega
      exact change_ok B hk h1 h2 a2 a3 a4
  · rw [e] at hmin hfar ⊢
    refine ⟨lk_iff.2 ⟨by simp, fun i hi => ?_⟩, rfl, b2, why_0 hmin hfar (by simp) (shf_none fun i j hi hj => ?_) (dat_none fun i hi hj => ?_)⟩
    · have : i = 0 ∨ i = 1 := by simp at hi; omega
      rcases this with rfl | rfl
      · exact adjS _ _ a1 a4
      · exact adjS _ _ b3 b4
    · have : (i = 1 ∧ j = 0) ∨ (i = 2 ∧ j = 0) ∨ (i = 2 ∧ j = 1) := by simp at hi; omega
      rcases this with ⟨rfl, rfl⟩ | ⟨rfl, rfl⟩ | ⟨rfl, rfl⟩ <;> exact shf_sp r Y _ _
    · have : i = 1 ∨ i = 2 := by simp at hj; omega
      rcases this with rfl | rfl
      · exact change_ok B hk h1 h2 a2 a3 a4
      · exact change_ok B hk h1 h2 b2 c3 b4
/-- a record is found for the spans of any right record, and has them -/
theorem all_fit {r : Rc} {Y : Int} (B : r.Bd) (hk : r.ok = true) (h1 : 1601 ≤ Y) (h2 : Y ≤ 9999) : Fit (fitR (spL r Y) Y) Y (spL r Y) := by
  obtain ⟨a, b, c, d⟩ := all_law B hk h1 h2
  exact fit_law h1 h2 a b c d
end Go.Proofs.YtginidedeefcdaaDoor.Ft
