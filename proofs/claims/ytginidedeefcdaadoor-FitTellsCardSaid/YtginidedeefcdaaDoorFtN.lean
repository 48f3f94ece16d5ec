/-
  A RECORD FOR A YEAR: the record that is found has the spans that it was found for (plain Lean).
-/
import Derived.Test.YtginidedeefcdaaDoorFtM
import Derived.Test.YtginidedeefcdaaDoorSp
namespace Go.Proofs.YtginidedeefcdaaDoor.Ft
open Go.ChangeShapes Go.WideShapes Go.ChangeAt Go.RowKit
open Go.Proofs.YtginidedeefcdaaDoor
open Go.Proofs.YtginidedeefcdaaDoor.Wd
open Go.Proofs.YtginidedeefcdaaDoor.Rec
open Go.Proofs.YtginidedeefcdaaDoor.Yr
open Go.Proofs.YtginidedeefcdaaDoor.Tb
open Go.Proofs.YtginidedeefcdaaDoor.Clk (yrV yrE)
set_option linter.unusedVariables false
theorem year_in {c Y : Int} (h1 : 1 ≤ Y) (h2 : Y ≤ 9999) (a : begY Y ≤ c) (b : c < begY (Y + 1)) : yrE c = 0 ∧ yrV c = Y := by
  have hn1 : Cal.first Y ≤ c / 86400 := by unfold begY at a; omega
  have hn2 : c / 86400 < Cal.first (Y + 1) := by unfold begY at b; omega
  have hr : -719162 ≤ c / 86400 ∧ c / 86400 ≤ 2932896 := by unfold Cal.first at hn1 hn2; omega
  have hok := Cal.day_ok _ hr.1 hr.2
  have hnum := Cal.day_num (c / 86400)
  have hb := Cal.num_bd _ _ _ hok
  rw [hnum] at hb
  have hd := (Cal.okD_iff _ _ _).1 hok
  unfold Clk.yrE Clk.yrV Cal.ofE Cal.ofYV
  rw [if_pos ((Cal.okN_iff _).2 hr), if_pos ((Cal.okN_iff _).2 hr)]
  refine ⟨rfl, ?_⟩
  generalize Cal.dayY (c / 86400) = y at *
  by_cases q : y < Y
  · have := Cal.first_mono (y + 1) Y (by omega); omega
  · by_cases q2 : Y < y
    · have := Cal.first_mono (Y + 1) y (by omega); omega
    · omega
theorem year_of {c Y : Int} (h : yrE c = 0) (hy : yrV c = Y) : begY Y ≤ c ∧ c < begY (Y + 1) ∧ 1 ≤ Y ∧ Y ≤ 9999 := by
  have hb := yr_bd h
  unfold Clk.yrE Cal.ofE at h
  unfold Clk.yrV Cal.ofYV at hy
  by_cases ho : Cal.okN (c / 86400) = true
  · rw [if_pos ho] at hy
    have hn := (Cal.okN_iff _).1 ho
    have hok := Cal.day_ok _ hn.1 hn.2
    have hnum := Cal.day_num (c / 86400)
    have hb' := Cal.num_bd _ _ _ hok
    rw [hnum, hy] at hb'
    have hd := (Cal.okD_iff _ _ _).1 hok
    rw [hy] at hd
    unfold begY
    omega
  · rw [if_neg ho] at h; cases h
theorem pick_day {Y m day d N1 : Int} (hN : Cal.num Y m 1 = N1) (h1 : 1 ≤ day) (h2 : day ≤ Cal.mlen Y m)
    (hd : d = if Cal.mlen Y m - 7 < day then 5 else (day - 1) / 7 + 1) : Stp.pickD Y m (Cal.wday (N1 + (day - 1))) d = day := by
  have hm := Cal.mlen_bd Y m
  have hk : Stp.dayK Y m (Cal.wday (N1 + (day - 1))) d = 1 + (day - 1) % 7 + 7 * (d - 1) := by
    unfold Stp.dayK Cal.wday; rw [hN]; omega
  unfold Stp.pickD
  rw [hk]
  generalize Cal.mlen Y m = ml at *
  split at hd <;> subst hd <;> split <;> omega
/-- a stamp that was made of a clock's time is that time's -/
theorem fs_all {c Y : Int} (h1 : 1601 ≤ Y) (h2 : Y ≤ 9999) (he : yrE c = 0) (hy : yrV c = Y) (u : Int) (u0 : 0 ≤ u) (u9 : u ≤ 999) :
    let s : St := { fsS c with u := u }
    s.Bd ∧ s.zero = false ∧ s.chk = 0 ∧ leS s Y = 0 ∧ lcS s Y = 1000 * c + u := by
  have hr : -719162 ≤ c / 86400 ∧ c / 86400 ≤ 2932896 := by
    have := yr_bd he; omega
  have hokN := (Cal.okN_iff (c / 86400)).2 hr
  have hok := Cal.day_ok _ hr.1 hr.2
  have hnum := Cal.day_num (c / 86400)
  have hYd : Cal.dayY (c / 86400) = Y := by unfold Clk.yrV Cal.ofYV at hy; rw [if_pos hokN] at hy; exact hy
  rw [hYd] at hok hnum
  have hd := (Cal.okD_iff _ _ _).1 hok
  have hml := Cal.mlen_bd Y (Cal.dayM (c / 86400))
  have hw : 0 ≤ Cal.wday (c / 86400) ∧ Cal.wday (c / 86400) ≤ 6 := by unfold Cal.wday; omega
  have hpick := @pick_day Y (Cal.dayM (c / 86400)) (Cal.dayD (c / 86400)) (if Cal.mlen Y (Cal.dayM (c / 86400)) - 7 < Cal.dayD (c / 86400) then 5 else (Cal.dayD (c / 86400) - 1) / 7 + 1) _ rfl hd.2.2.2.2.1 hd.2.2.2.2.2 rfl
  have hlin : Cal.num Y (Cal.dayM (c / 86400)) 1 + (Cal.dayD (c / 86400) - 1) = c / 86400 := by have q := hnum; unfold Cal.num at q ⊢; omega
  rw [hlin] at hpick
  have e1 : fsS c = ⟨0, Cal.dayM (c / 86400), Cal.wday (c / 86400), if Cal.mlen Y (Cal.dayM (c / 86400)) - 7 < Cal.dayD (c / 86400) then 5 else (Cal.dayD (c / 86400) - 1) / 7 + 1, c % 86400 / 3600, c % 86400 / 60 % 60, c % 86400 % 60, 0⟩ := by
    unfold fsS Cal.ofMV Cal.ofYV Cal.ofDV
    rw [if_pos hokN, if_pos hokN, if_pos hokN, hYd]
  intro s
  have es : s = ⟨0, Cal.dayM (c / 86400), Cal.wday (c / 86400), if Cal.mlen Y (Cal.dayM (c / 86400)) - 7 < Cal.dayD (c / 86400) then 5 else (Cal.dayD (c / 86400) - 1) / 7 + 1, c % 86400 / 3600, c % 86400 / 60 % 60, c % 86400 % 60, u⟩ := by
    show { fsS c with u := u } = _; rw [e1]
  clear_value s
  subst es
  clear e1
  have hD : 1 ≤ (if Cal.mlen Y (Cal.dayM (c / 86400)) - 7 < Cal.dayD (c / 86400) then (5 : Int) else (Cal.dayD (c / 86400) - 1) / 7 + 1) ∧ (if Cal.mlen Y (Cal.dayM (c / 86400)) - 7 < Cal.dayD (c / 86400) then (5 : Int) else (Cal.dayD (c / 86400) - 1) / 7 + 1) ≤ 5 := by
    split <;> omega
  generalize (if Cal.mlen Y (Cal.dayM (c / 86400)) - 7 < Cal.dayD (c / 86400) then (5 : Int) else (Cal.dayD (c / 86400) - 1) / 7 + 1) = D at *
  obtain ⟨_, _, m1, m2, d1, d2⟩ := hd
  generalize Cal.dayM (c / 86400) = M at *
  generalize Cal.wday (c / 86400) = V at *
  have z0 : Stp.zeroS 0 M V D (c % 86400 / 3600) (c % 86400 / 60 % 60) (c % 86400 % 60) u = false := by
    cases hz : Stp.zeroS 0 M V D (c % 86400 / 3600) (c % 86400 / 60 % 60) (c % 86400 % 60) u with
    | false => rfl
    | true => have := Stp.zero_iff.1 hz; omega
  have n0 : Stp.numS M V D (c % 86400 / 3600) (c % 86400 / 60 % 60) (c % 86400 % 60) u = true := Stp.num_iff.2 (by omega)
  have y0 : Stp.dayS 0 M D = true := Stp.day_iff.2 (.inl ⟨rfl, hD.2⟩)
  have k0 : Stp.okS 0 M V D (c % 86400 / 3600) (c % 86400 / 60 % 60) (c % 86400 % 60) u = true := by unfold Stp.okS; rw [n0, y0]; simp
  have t0 : Stp.dtE 0 M V D (c % 86400 / 3600) (c % 86400 / 60 % 60) (c % 86400 % 60) u Y = 0 := by
    unfold Stp.dtE Stp.noneS
    rw [k0, z0]
    simp; omega
  refine ⟨⟨by simp only; omega, by simp only; omega, by simp only; omega, by simp only; omega, by simp only; omega, by simp only; omega, by simp only; omega, by simp only; omega⟩, z0, ?_, t0, ?_⟩
  · show Stp.chkS 0 M V D _ _ _ u = 0
    unfold Stp.chkS; rw [k0]; rfl
  · show Stp.lcV 0 M V D _ _ _ u Y = _
    unfold Stp.lcV Stp.dtY Stp.dtM Stp.dtD
    rw [if_pos t0, if_pos t0, if_pos t0, if_pos t0, if_pos rfl, hpick]
    have e2 : Cal.num Y M (Cal.dayD (c / 86400)) = c / 86400 := hnum
    rw [e2]
    unfold Stp.msT; simp only; omega
theorem fs_sec {c Y : Int} (h1 : 1601 ≤ Y) (h2 : Y ≤ 9999) (he : yrE c = 0) (hy : yrV c = Y) (off : Int) : secV (fsS c) Y off = c - off := by
  obtain ⟨_, _, _, h4, h5⟩ := fs_all h1 h2 he hy 0 (by decide) (by decide)
  have e : ({ fsS c with u := 0 } : St) = fsS c := rfl
  simp only [e] at h4 h5
  unfold secV; rw [if_pos h4, h5]; omega
theorem begY_bd {Y : Int} (h1 : 1 ≤ Y) (h2 : Y ≤ 9999) : begY Y < begY (Y + 1) ∧ -62135596800 ≤ begY Y ∧ begY (Y + 1) ≤ 253402300800 := by unfold begY Cal.first; omega
theorem en_sec {Y : Int} (h1 : 1601 ≤ Y) (h2 : Y ≤ 9999) (off : Int) : secV (enA Y) Y off = begY Y - off ∧ secV (enB Y) Y off = begY (Y + 1) - off := by
  have hb := begY_bd (Y := Y) (by omega) h2
  obtain ⟨a1, a2⟩ := year_in (c := begY Y) (Y := Y) (by omega) h2 (by omega) (by omega)
  obtain ⟨b1, b2⟩ := year_in (c := begY (Y + 1) - 1) (Y := Y) (by omega) h2 (by omega) (by omega)
  refine ⟨fs_sec h1 h2 a1 a2 off, ?_⟩
  obtain ⟨_, _, _, h4, h5⟩ := fs_all h1 h2 b1 b2 999 (by decide) (by decide)
  unfold secV enB; rw [if_pos h4, h5]; omega
theorem en_ok {Y : Int} (h1 : 1601 ≤ Y) (h2 : Y ≤ 9999) : ((enA Y).Bd ∧ (enA Y).zero = false ∧ (enA Y).chk = 0) ∧ ((enB Y).Bd ∧ (enB Y).zero = false ∧ (enB Y).chk = 0) := by
  have hb := begY_bd (Y := Y) (by omega) h2
  obtain ⟨a1, a2⟩ := year_in (c := begY Y) (Y := Y) (by omega) h2 (by omega) (by omega)
  obtain ⟨b1, b2⟩ := year_in (c := begY (Y + 1) - 1) (Y := Y) (by omega) h2 (by omega) (by omega)
  have p := fs_all h1 h2 a1 a2 0 (by decide) (by decide)
  have q := fs_all h1 h2 b1 b2 999 (by decide) (by decide)
  exact ⟨⟨p.1, p.2.1, p.2.2.1⟩, ⟨q.1, q.2.1, q.2.2.1⟩⟩
theorem mk_rc {s t : Int} {P Q : St} (hs : s % 60 = 0) (ht : t % 60 = 0) (s1 : -86400 ≤ s ∧ s ≤ 86400) (t1 : -86400 ≤ t ∧ t ≤ 86400) (BP : P.Bd) (BQ : Q.Bd) (zz : P.zero = Q.zero) (cp : P.chk = 0) (cq : Q.chk = 0) :
    let r : Rc := ⟨-(s / 60), 0, (s - t) / 60, P, Q⟩
    r.Bd ∧ r.ok = true ∧ r.std = s ∧ r.dst = t := by
  have e1 : offS (-(s / 60)) 0 = s := by unfold offS; omega
  have e2 : offS (-(s / 60)) ((s - t) / 60) = t := by unfold offS; omega
  refine ⟨⟨by simp only; omega, by simp only; omega, by simp only; omega, BP, BQ⟩, ?_, e1, e2⟩
  show rcOk _ _ _ P Q = true
  unfold rcOk
  rw [e1, e2, zz, cp, cq]
  simp [near]; omega
theorem tr_rc {r : Rc} (hk : r.ok = true) {Y : Int} (h1 : 1601 ≤ Y) (h2 : Y ≤ 9999) : r.tr Y = secV r.q Y r.std ∧ r.ts Y = secV r.p Y r.dst := by
  have := Rc.tr0 hk h1 h2
  constructor
  · show trA _ _ _ _ _ _ = _; unfold trA; rw [if_pos this]
  · show trB _ _ _ _ _ _ = _; unfold trB; rw [if_pos this]
theorem spl_a {r : Rc} {Y : Int} (h1 : r.tr Y ≤ begY Y ∨ begY (Y + 1) ≤ r.tr Y) (h2 : r.ts Y ≤ begY Y ∨ begY (Y + 1) ≤ r.ts Y) : spL r Y = [r.sp Y (begY Y)] := by
  have e1 : sp1 r Y = sp0 r Y := Tb.step_skip (by omega)
  have e2 : sp2 r Y = sp1 r Y := Tb.step_skip (by omega)
  unfold spL; rw [e2, e1]; rfl
theorem spl_b {r : Rc} {Y t : Int} (a : begY Y < t) (b : t < begY (Y + 1))
    (h : (r.tr Y = t ∧ (r.ts Y ≤ begY Y ∨ begY (Y + 1) ≤ r.ts Y)) ∨ (r.ts Y = t ∧ (r.tr Y ≤ begY Y ∨ begY (Y + 1) ≤ r.tr Y)))
    (hn : eqT (r.off Y t) (r.sum Y t) (r.off Y (begY Y)) (r.sum Y (begY Y)) = false) : spL r Y = [r.sp Y (begY Y), r.sp Y t] := by
  have hm : (min (r.tr Y) (r.ts Y) = t ∧ (max (r.tr Y) (r.ts Y) ≤ begY Y ∨ begY (Y + 1) ≤ max (r.tr Y) (r.ts Y))) ∨ (max (r.tr Y) (r.ts Y) = t ∧ (min (r.tr Y) (r.ts Y) ≤ begY Y ∨ begY (Y + 1) ≤ min (r.tr Y) (r.ts Y))) := by omega
  rcases hm with ⟨m1, m2⟩ | ⟨m1, m2⟩
  · have e1 : sp1 r Y = ((sp0 r Y).1 ++ [r.sp Y t], r.off Y t, r.sum Y t) := by
      unfold sp1; rw [m1]; exact step_new (by omega) hn
    have e2 : sp2 r Y = sp1 r Y := Tb.step_skip m2
    unfold spL; rw [e2, e1]; rfl
  · have e1 : sp1 r Y = sp0 r Y := Tb.step_skip m2
    have e2 : sp2 r Y = ((sp0 r Y).1 ++ [r.sp Y t], r.off Y t, r.sum Y t) := by
      unfold sp2; rw [m1, e1]; exact step_new (by omega) hn
    unfold spL; rw [e2]; rfl
theorem spl_c {r : Rc} {Y t u : Int} (a : begY Y < t) (b : t < u) (c : u < begY (Y + 1))
    (h : (r.tr Y = t ∧ r.ts Y = u) ∨ (r.ts Y = t ∧ r.tr Y = u))
    (hn : eqT (r.off Y t) (r.sum Y t) (r.off Y (begY Y)) (r.sum Y (begY Y)) = false) (hn2 : eqT (r.off Y u) (r.sum Y u) (r.off Y t) (r.sum Y t) = false) : spL r Y = [r.sp Y (begY Y), r.sp Y t, r.sp Y u] := by
  have m1 : min (r.tr Y) (r.ts Y) = t := by omega
  have m2 : max (r.tr Y) (r.ts Y) = u := by omega
  have e1 : sp1 r Y = ((sp0 r Y).1 ++ [r.sp Y t], r.off Y t, r.sum Y t) := by
    unfold sp1; rw [m1]; exact step_new (by omega) hn
  have e2 : sp2 r Y = ((sp1 r Y).1 ++ [r.sp Y u], r.off Y u, r.sum Y u) := by
    unfold sp2; rw [m2]; exact step_new (by omega) (by rw [e1]; exact hn2)
  unfold spL; rw [e2, e1]; rfl
theorem eqT_ne {o o' : Int} {k k' : Bool} (h : k ≠ k') : eqT o k o' k' = false := by unfold eqT; cases k <;> cases k' <;> simp_all
theorem sp_eq {r : Rc} {Y t : Int} {S W : Int} (h1 : r.tr Y = S) (h2 : r.ts Y = W) {d : Bool} (hd : sumB S W t = d) : r.sp Y t = ⟨t, if d = true then r.dst else r.std, d⟩ ∧ r.sum Y t = d := by
  have e : r.sum Y t = d := by show sumB (trA _ _ _ _ _ Y) (trB _ _ _ _ _ Y) t = d; rw [← hd, ← h1, ← h2]
  refine ⟨?_, e⟩
  show (⟨t, r.off Y t, r.sum Y t⟩ : Sp) = _
  unfold Rc.off; rw [e]
theorem sumB_iff {S W t : Int} {d : Bool} (h : (if S < W then (S ≤ t ∧ t < W) else if W < S then (t < W ∨ S ≤ t) else False) ↔ d = true) : sumB S W t = d := by
  unfold sumB
  rw [Bool.eq_iff_iff, ← h]
  split
  · simp
  · split
    · simp
    · simp
/-- what a right list of spans of a year with a record is like -/
theorem shapes {l : List Sp} {F T : Int} (hk : lkB l = true) (hw : whyV l F T = 0) :
    (∃ a, l = [a]) ∨ (∃ a b, l = [a, b] ∧ a.f < b.f ∧ a.d ≠ b.d) ∨ (∃ a b c, l = [a, b, c] ∧ a.f < b.f ∧ b.f < c.f ∧ a.d ≠ b.d ∧ b.d ≠ c.d ∧ a.o = c.o) := by
  obtain ⟨h1, h2⟩ := lk_iff.1 hk
  obtain ⟨_, _, h3, h4, _⟩ := why_parts hw
  have key : ∀ i, i + 1 < l.length → (at_ l i).f < (at_ l (i + 1)).f ∧ (at_ l i).d ≠ (at_ l (i + 1)).d := by
    intro i hi
    have q := h2 i hi
    unfold adj alk at q
    rw [Bool.and_eq_true, decide_eq_true_iff] at q
    refine ⟨q.1, fun e => ?_⟩
    have z := shf_no h4 hi (Nat.lt_succ_self i)
    unfold shfP at z
    have q2 := q.2
    rw [e] at q2
    rw [e] at z
    simp at z q2
    exact q2 z
  match l, h1, h3 with
  | [a], _, _ => exact .inl ⟨a, rfl⟩
  | [a, b], _, _ => exact .inr (.inl ⟨a, b, rfl, (key 0 (by simp)).1, (key 0 (by simp)).2⟩)
  | [a, b, c], _, _ =>
    have k0 := key 0 (by simp)
    have k1 := key 1 (by simp)
    refine .inr (.inr ⟨a, b, c, rfl, k0.1, k1.1, k0.2, k1.2, ?_⟩)
    have z := shf_no h4 (i := 2) (j := 0) (by simp) (by decide)
    unfold shfP at z
    have ha : a.d = c.d := by
      have p : a.d ≠ b.d := k0.2
      have q : b.d ≠ c.d := k1.2
      revert p q; cases a.d <;> cases b.d <;> cases c.d <;> simp
    have z' : (c.d == a.d && c.o != a.o) = false := z
    rw [ha] at z'
    simp at z'
    exact z'.symm
  | _ :: _ :: _ :: _ :: _, _, h => simp at h
end Go.Proofs.YtginidedeefcdaaDoor.Ft
