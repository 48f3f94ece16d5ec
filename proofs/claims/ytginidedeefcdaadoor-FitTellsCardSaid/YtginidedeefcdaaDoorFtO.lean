/-
  A RECORD FOR A YEAR: the law of the record that is found (plain Lean).
-/
import Derived.Test.YtginidedeefcdaaDoorFtN
namespace Go.Proofs.YtginidedeefcdaaDoor.Ft
open Go.ChangeShapes Go.WideShapes Go.ChangeAt Go.RowKit
open Go.Proofs.YtginidedeefcdaaDoor
open Go.Proofs.YtginidedeefcdaaDoor.Wd
open Go.Proofs.YtginidedeefcdaaDoor.Rec
open Go.Proofs.YtginidedeefcdaaDoor.Yr
open Go.Proofs.YtginidedeefcdaaDoor.Tb
open Go.Proofs.YtginidedeefcdaaDoor.Clk (yrV yrE)
set_option linter.unusedVariables false
structure StOk (s : St) : Prop where
  b : s.Bd
  z : s.zero = false
  c : s.chk = 0
theorem nil_bd : St.nil.Bd := by constructor <;> decide
theorem nil_never (Y off : Int) : secV St.nil Y off = 4611686018427387904 := by
  unfold secV
  rw [if_neg]
  have : leS St.nil Y ≠ 0 := by
    unfold leS St.nil Stp.dtE Stp.noneS
    rw [show Stp.okS 0 0 0 0 0 0 0 0 = true by decide, show Stp.zeroS 0 0 0 0 0 0 0 0 = true by decide]
    simp
    omega
  exact this
theorem st_all {l : List Sp} {Y : Int} (h1 : 1601 ≤ Y) (h2 : Y ≤ 9999) {i : Nat} (hc : begY Y ≤ ccV l i ∧ ccV l i ≤ begY (Y + 1)) :
    StOk (stAt l Y i) ∧ ∀ off, secV (stAt l Y i) Y off = ccV l i - off := by
  unfold stAt
  by_cases e : ccV l i = begY (Y + 1)
  · rw [if_pos e]
    have := (en_ok h1 h2).2
    exact ⟨⟨this.1, this.2.1, this.2.2⟩, fun off => by rw [(en_sec h1 h2 off).2, e]⟩
  · rw [if_neg e]
    obtain ⟨a1, a2⟩ := year_in (c := ccV l i) (Y := Y) (by omega) h2 (by omega) (by omega)
    have p := fs_all h1 h2 a1 a2 0 (by decide) (by decide)
    exact ⟨⟨p.1, p.2.1, p.2.2.1⟩, fs_sec h1 h2 a1 a2⟩
theorem en_st {Y : Int} (h1 : 1601 ≤ Y) (h2 : Y ≤ 9999) {p : Prop} [Decidable p] : StOk (if p then enA Y else enB Y) ∧ ∀ off, secV (if p then enA Y else enB Y) Y off = (if p then begY Y else begY (Y + 1)) - off := by
  have q := en_ok h1 h2
  by_cases hp : p
  · simp only [if_pos hp]; exact ⟨⟨q.1.1, q.1.2.1, q.1.2.2⟩, fun off => (en_sec h1 h2 off).1⟩
  · simp only [if_neg hp]; exact ⟨⟨q.2.1, q.2.2.1, q.2.2.2⟩, fun off => (en_sec h1 h2 off).2⟩
structure Fit (r : Rc) (Y : Int) (l : List Sp) : Prop where
  b : r.Bd
  ok : r.ok = true
  sp : spL r Y = l
/-- a record of two offsets and two right stamps: when it turns -/
theorem mk_turns {s t Y : Int} {P Q : St} (h1 : 1601 ≤ Y) (h2 : Y ≤ 9999) (hs : s % 60 = 0) (ht : t % 60 = 0) (s1 : -86400 ≤ s ∧ s ≤ 86400) (t1 : -86400 ≤ t ∧ t ≤ 86400) (p : StOk P) (q : StOk Q)
    {S W : Int} (hS : secV Q Y s = S) (hW : secV P Y t = W) :
    ∃ r : Rc, r = ⟨-(s / 60), 0, (s - t) / 60, P, Q⟩ ∧ r.Bd ∧ r.ok = true ∧ r.std = s ∧ r.dst = t ∧ r.tr Y = S ∧ r.ts Y = W := by
  obtain ⟨a, b, c, d⟩ := mk_rc hs ht s1 t1 p.b q.b (by rw [p.z, q.z]) p.c q.c
  obtain ⟨e, f⟩ := tr_rc b h1 h2
  refine ⟨_, rfl, a, b, c, d, ?_, ?_⟩
  · rw [e, c]; exact hS
  · rw [f, d]; exact hW
theorem law_1 {a : Sp} {Y : Int} (h1 : 1601 ≤ Y) (h2 : Y ≤ 9999) (hf : a.f = begY Y) (o1 : a.o % 60 = 0) (o2 : -86400 ≤ a.o ∧ a.o ≤ 86400) : Fit (fitR [a] Y) Y [a] := by
  have hb := begY_bd (Y := Y) (by omega) h2
  cases hd : a.d with
  | false =>
    have e : fitR [a] Y = ⟨-(a.o / 60), 0, (a.o - a.o) / 60, St.nil, St.nil⟩ := by
      unfold fitR; rw [if_pos ⟨rfl, hd⟩, show (a.o - a.o) / 60 = 0 by omega]; rfl
    obtain ⟨b1, b2, b3, b4⟩ := mk_rc (P := St.nil) (Q := St.nil) o1 o1 o2 o2 nil_bd nil_bd rfl rfl rfl
    rw [e]
    obtain ⟨t1, t2⟩ := tr_rc b2 h1 h2
    rw [show secV St.nil Y _ = 4611686018427387904 from nil_never _ _] at t1 t2
    refine ⟨b1, b2, ?_⟩
    rw [spl_a (by rw [t1]; omega) (by rw [t2]; omega)]
    have hs : sumB 4611686018427387904 4611686018427387904 (begY Y) = false := sumB_iff (by simp)
    rw [(sp_eq t1 t2 hs).1, b3]
    obtain ⟨f, o, d⟩ := a
    simp only at hd hf
    subst hd hf
    rfl
  | true =>
    have e : fitR [a] Y = ⟨-((0 : Int) / 60), 0, (0 - a.o) / 60, if 0 < a.o then enA Y else enB Y, if (0 : Int) ≤ 0 then enA Y else enB Y⟩ := by
      unfold fitR
      rw [if_neg (by rintro ⟨_, q⟩; exact absurd (hd.symm.trans q) (by decide))]
      unfold lastO lastO
      rw [if_neg (by rw [hd]; decide), if_pos hd]
      rfl
    obtain ⟨p1, p2⟩ := en_st h1 h2 (p := 0 < a.o)
    obtain ⟨q1, q2⟩ := en_st h1 h2 (p := (0 : Int) ≤ 0)
    obtain ⟨R, hR, b1, b2, b3, b4, t1, t2⟩ := mk_turns h1 h2 (s := 0) (t := a.o) (by decide) o1 (by decide) o2 p1 q1 (q2 0) (p2 a.o)
    rw [e, ← hR]
    rw [if_pos (show (0 : Int) ≤ 0 by decide)] at t1
    refine ⟨b1, b2, ?_⟩
    by_cases ho : 0 < a.o
    · rw [if_pos ho] at t2
      rw [spl_a (by rw [t1]; omega) (by rw [t2]; omega)]
      have hs : sumB (begY Y - 0) (begY Y - a.o) (begY Y) = true := sumB_iff (by rw [if_neg (by omega), if_pos (by omega)]; simp)
      rw [(sp_eq t1 t2 hs).1, b4]
      obtain ⟨f, o, d⟩ := a
      simp only at hd hf
      subst hd hf
      rfl
    · rw [if_neg ho] at t2
      rw [spl_a (by rw [t1]; omega) (by rw [t2]; omega)]
      have hs : sumB (begY Y - 0) (begY (Y + 1) - a.o) (begY Y) = true := sumB_iff (by rw [if_pos (by omega)]; simp; omega)
      rw [(sp_eq t1 t2 hs).1, b4]
      obtain ⟨f, o, d⟩ := a
      simp only at hd hf
      subst hd hf
      rfl
theorem law_2 {a b : Sp} {Y : Int} (h1 : 1601 ≤ Y) (h2 : Y ≤ 9999) (hf : a.f = begY Y) (ab : a.f < b.f) (bl : b.f < begY (Y + 1)) (hd : a.d ≠ b.d)
    (o1 : a.o % 60 = 0) (o2 : -86400 ≤ a.o ∧ a.o ≤ 86400) (u1 : b.o % 60 = 0) (u2 : -86400 ≤ b.o ∧ b.o ≤ 86400)
    (hc : begY Y ≤ b.f + a.o ∧ b.f + a.o ≤ begY (Y + 1)) : Fit (fitR [a, b] Y) Y [a, b] := by
  have hb := begY_bd (Y := Y) (by omega) h2
  have hcc : ccV [a, b] 1 = b.f + a.o := rfl
  obtain ⟨s1, s2⟩ := st_all (l := [a, b]) h1 h2 (i := 1) (by rw [hcc]; exact hc)
  rw [hcc] at s2
  obtain ⟨f, o, d⟩ := a
  obtain ⟨f', o', d'⟩ := b
  simp only at hf ab bl hd o1 o2 u1 u2 hc hcc s1 s2
  subst hf
  cases d with
  | false =>
    obtain rfl : d' = true := by cases d' <;> simp_all
    have e : fitR [⟨begY Y, o, false⟩, ⟨f', o', true⟩] Y = ⟨-(o / 60), 0, (o - o') / 60, if 0 < o' then enA Y else enB Y, stAt [⟨begY Y, o, false⟩, ⟨f', o', true⟩] Y 1⟩ := by
      unfold fitR
      rw [if_neg (by rintro ⟨q, _⟩; cases q)]
      rfl
    obtain ⟨p1, p2⟩ := en_st h1 h2 (p := 0 < o')
    obtain ⟨R, hR, b1, b2, b3, b4, t1, t2⟩ := mk_turns h1 h2 o1 u1 o2 u2 p1 s1 (s2 o) (p2 o')
    rw [e, ← hR]
    rw [show f' + o - o = f' by omega] at t1
    refine ⟨b1, b2, ?_⟩
    by_cases ho : 0 < o'
    · rw [if_pos ho] at t2
      have g1 : sumB f' (begY Y - o') (begY Y) = false := sumB_iff (by rw [if_neg (by omega), if_pos (by omega)]; simp; omega)
      have g2 : sumB f' (begY Y - o') f' = true := sumB_iff (by rw [if_neg (by omega), if_pos (by omega)]; simp)
      have k1 := sp_eq t1 t2 g1
      have k2 := sp_eq t1 t2 g2
      rw [spl_b (t := f') ab bl (.inl ⟨t1, by rw [t2]; omega⟩) (eqT_ne (by rw [k1.2, k2.2]; decide)), k1.1, k2.1, b3, b4]
      rfl
    · rw [if_neg ho] at t2
      have g1 : sumB f' (begY (Y + 1) - o') (begY Y) = false := sumB_iff (by rw [if_pos (by omega)]; simp; omega)
      have g2 : sumB f' (begY (Y + 1) - o') f' = true := sumB_iff (by rw [if_pos (by omega)]; simp; omega)
      have k1 := sp_eq t1 t2 g1
      have k2 := sp_eq t1 t2 g2
      rw [spl_b (t := f') ab bl (.inl ⟨t1, by rw [t2]; omega⟩) (eqT_ne (by rw [k1.2, k2.2]; decide)), k1.1, k2.1, b3, b4]
      rfl
  | true =>
    obtain rfl : d' = false := by cases d' <;> simp_all
    have e : fitR [⟨begY Y, o, true⟩, ⟨f', o', false⟩] Y = ⟨-(o' / 60), 0, (o' - o) / 60, stAt [⟨begY Y, o, true⟩, ⟨f', o', false⟩] Y 1, if 0 ≤ o' then enA Y else enB Y⟩ := by
      unfold fitR
      rw [if_neg (by rintro ⟨q, _⟩; cases q)]
      rfl
    obtain ⟨p1, p2⟩ := en_st h1 h2 (p := 0 ≤ o')
    obtain ⟨R, hR, b1, b2, b3, b4, t1, t2⟩ := mk_turns h1 h2 u1 o1 u2 o2 s1 p1 (p2 o') (s2 o)
    rw [e, ← hR]
    rw [show f' + o - o = f' by omega] at t2
    refine ⟨b1, b2, ?_⟩
    by_cases ho : 0 ≤ o'
    · rw [if_pos ho] at t1
      have g1 : sumB (begY Y - o') f' (begY Y) = true := sumB_iff (by rw [if_pos (by omega)]; simp; omega)
      have g2 : sumB (begY Y - o') f' f' = false := sumB_iff (by rw [if_pos (by omega)]; simp)
      have k1 := sp_eq t1 t2 g1
      have k2 := sp_eq t1 t2 g2
      rw [spl_b (t := f') ab bl (.inr ⟨t2, by rw [t1]; omega⟩) (eqT_ne (by rw [k1.2, k2.2]; decide)), k1.1, k2.1, b3, b4]
      rfl
    · rw [if_neg ho] at t1
      have g1 : sumB (begY (Y + 1) - o') f' (begY Y) = true := sumB_iff (by rw [if_neg (by omega), if_pos (by omega)]; simp; omega)
      have g2 : sumB (begY (Y + 1) - o') f' f' = false := sumB_iff (by rw [if_neg (by omega), if_pos (by omega)]; simp; omega)
      have k1 := sp_eq t1 t2 g1
      have k2 := sp_eq t1 t2 g2
      rw [spl_b (t := f') ab bl (.inr ⟨t2, by rw [t1]; omega⟩) (eqT_ne (by rw [k1.2, k2.2]; decide)), k1.1, k2.1, b3, b4]
      rfl
theorem law_3 {a b c : Sp} {Y : Int} (h1 : 1601 ≤ Y) (h2 : Y ≤ 9999) (hf : a.f = begY Y) (ab : a.f < b.f) (bc : b.f < c.f) (bl : c.f < begY (Y + 1)) (hd : a.d ≠ b.d) (hd2 : b.d ≠ c.d) (ho : a.o = c.o)
    (o1 : a.o % 60 = 0) (o2 : -86400 ≤ a.o ∧ a.o ≤ 86400) (u1 : b.o % 60 = 0) (u2 : -86400 ≤ b.o ∧ b.o ≤ 86400)
    (hc : begY Y ≤ b.f + a.o ∧ b.f + a.o ≤ begY (Y + 1)) (hc2 : begY Y ≤ c.f + b.o ∧ c.f + b.o ≤ begY (Y + 1)) : Fit (fitR [a, b, c] Y) Y [a, b, c] := by
  have hb := begY_bd (Y := Y) (by omega) h2
  have hcc : ccV [a, b, c] 1 = b.f + a.o := rfl
  have hcc2 : ccV [a, b, c] 2 = c.f + b.o := rfl
  obtain ⟨s1, s2⟩ := st_all (l := [a, b, c]) h1 h2 (i := 1) (by rw [hcc]; exact hc)
  obtain ⟨r1, r2⟩ := st_all (l := [a, b, c]) h1 h2 (i := 2) (by rw [hcc2]; exact hc2)
  rw [hcc] at s2
  rw [hcc2] at r2
  obtain ⟨f, o, d⟩ := a
  obtain ⟨f', o', d'⟩ := b
  obtain ⟨f'', o'', d''⟩ := c
  simp only at hf ab bc bl hd hd2 ho o1 o2 u1 u2 hc hc2 hcc hcc2 s1 s2 r1 r2
  subst hf ho
  cases d with
  | false =>
    obtain rfl : d' = true := by cases d' <;> simp_all
    obtain rfl : d'' = false := by cases d'' <;> simp_all
    have e : fitR [⟨begY Y, o, false⟩, ⟨f', o', true⟩, ⟨f'', o, false⟩] Y = ⟨-(o / 60), 0, (o - o') / 60, stAt [⟨begY Y, o, false⟩, ⟨f', o', true⟩, ⟨f'', o, false⟩] Y 2, stAt [⟨begY Y, o, false⟩, ⟨f', o', true⟩, ⟨f'', o, false⟩] Y 1⟩ := by
      unfold fitR
      rw [if_neg (by rintro ⟨q, _⟩; cases q)]
      rfl
    obtain ⟨R, hR, b1, b2, b3, b4, t1, t2⟩ := mk_turns h1 h2 o1 u1 o2 u2 r1 s1 (s2 o) (r2 o')
    rw [e, ← hR]
    rw [show f' + o - o = f' by omega] at t1
    rw [show f'' + o' - o' = f'' by omega] at t2
    refine ⟨b1, b2, ?_⟩
    have g1 : sumB f' f'' (begY Y) = false := sumB_iff (by rw [if_pos bc]; simp; omega)
    have g2 : sumB f' f'' f' = true := sumB_iff (by rw [if_pos bc]; simp; omega)
    have g3 : sumB f' f'' f'' = false := sumB_iff (by rw [if_pos bc]; simp)
    have k1 := sp_eq t1 t2 g1
    have k2 := sp_eq t1 t2 g2
    have k3 := sp_eq t1 t2 g3
    rw [spl_c (t := f') (u := f'') ab bc bl (.inl ⟨t1, t2⟩) (eqT_ne (by rw [k1.2, k2.2]; decide)) (eqT_ne (by rw [k3.2, k2.2]; decide)), k1.1, k2.1, k3.1, b3, b4]
    rfl
  | true =>
    obtain rfl : d' = false := by cases d' <;> simp_all
    obtain rfl : d'' = true := by cases d'' <;> simp_all
    have e : fitR [⟨begY Y, o, true⟩, ⟨f', o', false⟩, ⟨f'', o, true⟩] Y = ⟨-(o' / 60), 0, (o' - o) / 60, stAt [⟨begY Y, o, true⟩, ⟨f', o', false⟩, ⟨f'', o, true⟩] Y 1, stAt [⟨begY Y, o, true⟩, ⟨f', o', false⟩, ⟨f'', o, true⟩] Y 2⟩ := by
      unfold fitR
      rw [if_neg (by rintro ⟨q, _⟩; cases q)]
      rfl
    obtain ⟨R, hR, b1, b2, b3, b4, t1, t2⟩ := mk_turns h1 h2 u1 o1 u2 o2 s1 r1 (r2 o') (s2 o)
    rw [e, ← hR]
    rw [show f'' + o' - o' = f'' by omega] at t1
    rw [show f' + o - o = f' by omega] at t2
    refine ⟨b1, b2, ?_⟩
    have g1 : sumB f'' f' (begY Y) = true := sumB_iff (by rw [if_neg (by omega), if_pos bc]; simp; omega)
    have g2 : sumB f'' f' f' = false := sumB_iff (by rw [if_neg (by omega), if_pos bc]; simp; omega)
    have g3 : sumB f'' f' f'' = true := sumB_iff (by rw [if_neg (by omega), if_pos bc]; simp)
    have k1 := sp_eq t1 t2 g1
    have k2 := sp_eq t1 t2 g2
    have k3 := sp_eq t1 t2 g3
    rw [spl_c (t := f') (u := f'') ab bc bl (.inr ⟨t2, t1⟩) (eqT_ne (by rw [k1.2, k2.2]; decide)) (eqT_ne (by rw [k3.2, k2.2]; decide)), k1.1, k2.1, k3.1, b3, b4]
    rfl
theorem off_ok {l : List Sp} (h1 : minB l = false) (h2 : farB l = false) {k : Nat} (hk : k < l.length) : (at_ l k).o % 60 = 0 ∧ -86400 ≤ (at_ l k).o ∧ (at_ l k).o ≤ 86400 := by
  have a := any_no h1 hk
  have b := any_no h2 hk
  simp only [decide_eq_false_iff_not] at a b
  omega
/-- THE LAW -/
theorem fit_law {l : List Sp} {Y : Int} (h1 : 1601 ≤ Y) (h2 : Y ≤ 9999) (hk : lkB l = true) (hf : (at_ l 0).f = begY Y) (hl : (at_ l (l.length - 1)).f < begY (Y + 1)) (hw : whyV l (begY Y) (begY (Y + 1)) = 0) : Fit (fitR l Y) Y l := by
  obtain ⟨m, fa, ln, sh, dt⟩ := why_parts hw
  rcases shapes hk hw with ⟨a, rfl⟩ | ⟨a, b, rfl, ab, d1⟩ | ⟨a, b, c, rfl, ab, bc, d1, d2, ho⟩
  · have o := off_ok m fa (k := 0) (by simp)
    exact law_1 h1 h2 hf o.1 o.2
  · have o := off_ok m fa (k := 0) (by simp)
    have u := off_ok m fa (k := 1) (by simp)
    exact law_2 h1 h2 hf ab hl d1 o.1 o.2 u.1 u.2 (dat_no dt (i := 1) (by decide) (by simp))
  · have o := off_ok m fa (k := 0) (by simp)
    have u := off_ok m fa (k := 1) (by simp)
    exact law_3 h1 h2 hf ab bc hl d1 d2 ho o.1 o.2 u.1 u.2 (dat_no dt (i := 1) (by decide) (by simp)) (dat_no dt (i := 2) (by decide) (by simp))
end Go.Proofs.YtginidedeefcdaaDoor.Ft
