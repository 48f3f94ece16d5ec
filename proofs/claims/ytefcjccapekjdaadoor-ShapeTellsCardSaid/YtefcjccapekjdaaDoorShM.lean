/-
  THE FORMS OF A STAMP, in plain Lean: what they are, and that each has the stamp's time in the year.
-/
import Derived.Test.YtefcjccapekjdaaDoorSpM
namespace Go.Proofs.YtefcjccapekjdaaDoor.Sh
open Go.ChangeShapes Go.WideShapes Go.ChangeAt Go.RowKit
open Go.Proofs.YtefcjccapekjdaaDoor
open Go.Proofs.YtefcjccapekjdaaDoor.Wd
open Go.Proofs.YtefcjccapekjdaaDoor.Rec
open Go.Proofs.YtefcjccapekjdaaDoor.Yr
open Go.Proofs.YtefcjccapekjdaaDoor.Tb
set_option linter.unusedVariables false
abbrev dS (s : St) (Y : Int) : Int := Stp.dtD s.y s.m s.v s.d s.h s.i s.s s.u Y
/-- the day that a stamp is on in a year -/
def nS (s : St) (Y : Int) : Int := Cal.num Y s.m (dS s Y)
def fm (s : St) (Y y d : Int) : St := ⟨y, s.m, Cal.wday (nS s Y), d, s.h, s.i, s.s, s.u⟩
def fmL (s : St) (Y : Int) : List St :=
  (if (dS s Y - 1) / 7 + 1 < 5 then [fm s Y 0 ((dS s Y - 1) / 7 + 1)] else []) ++ ((if Cal.mlen Y s.m - 7 < dS s Y then [fm s Y 0 5] else []) ++ [fm s Y Y (dS s Y)])
def flatT : List St → List Value
  | [] => []
  | s :: l => (sA s).toList ++ flatT l
theorem flatT_app (l m : List St) : flatT (l ++ m) = flatT l ++ flatT m := by
  induction l with
  | nil => rfl
  | cons s l ih => show (sA s).toList ++ flatT (l ++ m) = _; rw [ih, ← List.append_assoc]; rfl
theorem flatT_len (l : List St) : (flatT l).length = l.length * 8 := by
  induction l with
  | nil => rfl
  | cons s l ih => show ((sA s).toList ++ flatT l).length = _; rw [List.length_append, ih, List.length_cons]; simp; omega
theorem flatT_at (l : List St) (k i : Nat) (hk : k < l.length) (hi : i < 8) : (flatT l)[8 * k + i]? = (sA l[k])[i]? := by
  induction l generalizing k with
  | nil => exact absurd hk (Nat.not_lt_zero _)
  | cons s l ih =>
    have hl : (sA s).toList.length = 8 := rfl
    cases k with
    | zero =>
      show ((sA s).toList ++ flatT l)[8 * 0 + i]? = _
      rw [Nat.mul_zero, Nat.zero_add, List.getElem?_append_left (by rw [hl]; exact hi), Array.getElem?_toList]; rfl
    | succ k =>
      show ((sA s).toList ++ flatT l)[8 * (k + 1) + i]? = _
      rw [List.getElem?_append_right (by rw [hl]; omega), hl, show 8 * (k + 1) + i - 8 = 8 * k + i by omega, ih k (by simpa using hk)]
      rfl
theorem fmL_len (s : St) (Y : Int) : 1 ≤ (fmL s Y).length ∧ (fmL s Y).length ≤ 3 := by
  unfold fmL; split <;> split <;> simp
/-- what is known of a stamp that has a time in a year -/
structure Told (s : St) (Y : Int) : Prop where
  e1 : 1601 ≤ Y
  e2 : Y ≤ 9999
  m1 : 1 ≤ s.m
  m2 : s.m ≤ 12
  d1 : 1 ≤ dS s Y
  d2 : dS s Y ≤ Cal.mlen Y s.m
  l1 : 28 ≤ Cal.mlen Y s.m
  l2 : Cal.mlen Y s.m ≤ 31
  ok : Cal.okD Y s.m (dS s Y) = true
  ey : Stp.dtY s.y s.m s.v s.d s.h s.i s.s s.u Y = Y
  em : Stp.dtM s.y s.m s.v s.d s.h s.i s.s s.u Y = s.m
  h9 : s.h ≤ 23
  i9 : s.i ≤ 59
  s9 : s.s ≤ 59
  u9 : s.u ≤ 999
  lc : lcS s Y = nS s Y * 86400000 + Stp.msT s.h s.i s.s s.u
theorem told_of {s : St} {Y : Int} (B : s.Bd) (he : leS s Y = 0) : Told s Y := by
  obtain ⟨hok, e1, e2, hY1, hY2, m1, m2, v6, h23, i59, s59, u999, d1⟩ := Stp.dt_ok B he
  have hb := Cal.mlen_bd Y s.m
  rw [e1, e2] at hok
  have hd := (Cal.okD_iff _ _ _).1 hok
  refine ⟨hY1, hY2, m1, m2, hd.2.2.2.2.1, hd.2.2.2.2.2, by omega, by omega, hok, e1, e2, h23, i59, s59, u999, ?_⟩
  unfold lcS Stp.lcV
  rw [if_pos (show Stp.dtE s.y s.m s.v s.d s.h s.i s.s s.u Y = 0 from he), e1, e2]; rfl
theorem pick_two {Y m day d : Int} (h1 : 1 ≤ day) (h2 : day ≤ Cal.mlen Y m) (hd : (d = (day - 1) / 7 + 1 ∧ d < 5) ∨ (d = 5 ∧ Cal.mlen Y m - 7 < day)) :
    Stp.pickD Y m (Cal.wday (Cal.num Y m day)) d = day := by
  have hm := Cal.mlen_bd Y m
  have hlin : Cal.num Y m day = Cal.num Y m 1 + (day - 1) := by unfold Cal.num; omega
  have hk : Stp.dayK Y m (Cal.wday (Cal.num Y m day)) d = 1 + (day - 1) % 7 + 7 * (d - 1) := by
    rw [hlin]; unfold Stp.dayK Cal.wday; generalize Cal.num Y m 1 = N; omega
  unfold Stp.pickD
  rw [hk]
  generalize Cal.mlen Y m = ml at *
  rcases hd with ⟨rfl, h5⟩ | ⟨rfl, h7⟩ <;> split <;> omega
/-- that a stamp is right, no zero, and has the time of another one in a year -/
structure Form (x s : St) (Y : Int) : Prop where
  bd : x.Bd
  nz : x.zero = false
  ck : x.chk = 0
  le : leS x Y = 0
  lc : lcS x Y = lcS s Y
theorem form_of {s : St} {Y y d : Int} (B : s.Bd) (he : leS s Y = 0) (hy : (y = 0 ∧ ((d = (dS s Y - 1) / 7 + 1 ∧ d < 5) ∨ (d = 5 ∧ Cal.mlen Y s.m - 7 < dS s Y))) ∨ (y = Y ∧ d = dS s Y)) : Form (fm s Y y d) s Y := by
  have t := told_of B he
  have tlc := t.lc
  obtain ⟨e1, e2, m1, m2, d1, d2, l1, l2, ok, ey, em, h9, i9, s9, u9, _⟩ := t
  have hw : 0 ≤ Cal.wday (nS s Y) ∧ Cal.wday (nS s Y) ≤ 6 := by unfold Cal.wday; omega
  have hpick : y = 0 → Stp.pickD Y s.m (Cal.wday (nS s Y)) d = dS s Y := fun h0 => by
    rcases hy with ⟨_, q⟩ | ⟨q, _⟩
    · exact pick_two d1 d2 q
    · omega
  have hday : Stp.dayS y s.m d = true := Stp.day_iff.2 (by
    rcases hy with ⟨q1, q2⟩ | ⟨q1, q2⟩
    · left; omega
    · right; rw [q1, q2]; omega)
  have hd : 1 ≤ d ∧ d ≤ 31 := by rcases hy with ⟨q1, q2⟩ | ⟨q1, q2⟩ <;> omega
  have hyY : y = 0 ∨ y = Y := by rcases hy with ⟨q, _⟩ | ⟨q, _⟩ <;> simp [q]
  have hdd : (if y = 0 then Stp.pickD Y s.m (Cal.wday (nS s Y)) d else d) = dS s Y := by
    split
    · exact hpick (by assumption)
    · rcases hy with ⟨q, _⟩ | ⟨_, q⟩
      · omega
      · exact q
  have hnum : Cal.num Y s.m (dS s Y) = nS s Y := rfl
  unfold fm
  obtain ⟨b1, b2, b3, b4, b5, b6, b7, b8⟩ := B
  generalize Cal.wday (nS s Y) = V at *
  have z0 : Stp.zeroS y s.m V d s.h s.i s.s s.u = false := by
    cases hz : Stp.zeroS y s.m V d s.h s.i s.s s.u with
    | false => rfl
    | true => have := Stp.zero_iff.1 hz; omega
  have n0 : Stp.numS s.m V d s.h s.i s.s s.u = true := Stp.num_iff.2 (by omega)
  have k0 : Stp.okS y s.m V d s.h s.i s.s s.u = true := by unfold Stp.okS; rw [n0, hday]; simp
  have t0 : Stp.dtE y s.m V d s.h s.i s.s s.u Y = 0 := by
    unfold Stp.dtE Stp.noneS
    rw [k0, z0]
    rcases hyY with rfl | rfl
    · simp; omega
    · simp; omega
  refine ⟨⟨by simp only; omega, by simp only; omega, by simp only; omega, by simp only; omega, b5, b6, b7, b8⟩, z0, ?_, t0, ?_⟩
  · show Stp.chkS y s.m V d s.h s.i s.s s.u = 0
    unfold Stp.chkS; rw [k0]; rfl
  · rw [tlc]
    show Stp.lcV y s.m V d s.h s.i s.s s.u Y = _
    unfold Stp.lcV Stp.dtY Stp.dtM Stp.dtD
    rw [if_pos t0, if_pos t0, if_pos t0, if_pos t0, hdd, hnum]
theorem fmL_ok {s : St} {Y : Int} (B : s.Bd) (he : leS s Y = 0) : ∀ x ∈ fmL s Y, Form x s Y := by
  intro x hx
  unfold fmL at hx
  rw [List.mem_append, List.mem_append] at hx
  rcases hx with hx | hx | hx
  · split at hx
    · rw [List.mem_singleton] at hx; subst hx; exact form_of B he (.inl ⟨rfl, .inl ⟨rfl, by assumption⟩⟩)
    · cases hx
  · split at hx
    · rw [List.mem_singleton] at hx; subst hx; exact form_of B he (.inl ⟨rfl, .inr ⟨rfl, by assumption⟩⟩)
    · cases hx
  · rw [List.mem_singleton] at hx; subst hx; exact form_of B he (.inr ⟨rfl, rfl⟩)
/-- o, if it is when s is -/
def likeV (s o : St) (Y : Int) : St := if leS s Y = 0 ∧ leS o Y = 0 ∧ lcS s Y = lcS o Y then o else s
def shRec (r o : Rc) (Y : Int) : Rc := if r.ok = true ∧ o.ok = true then { r with p := likeV r.p o.p Y, q := likeV r.q o.q Y } else r
theorem like_bd {s o : St} {Y : Int} (B : s.Bd) (Bo : o.Bd) : (likeV s o Y).Bd := by unfold likeV; split <;> assumption
theorem le_ok {s : St} {Y : Int} (he : leS s Y = 0) : s.chk = 0 ∧ s.zero = false := by
  unfold leS Stp.dtE at he
  split at he
  · cases he
  rename_i hk
  split at he
  · cases he
  split at he
  · cases he
  rename_i hn
  have hk' : Stp.okS s.y s.m s.v s.d s.h s.i s.s s.u = true := by simpa using hk
  refine ⟨by show Stp.chkS _ _ _ _ _ _ _ _ = 0; unfold Stp.chkS; rw [if_pos hk'], ?_⟩
  cases hz : s.zero with
  | false => rfl
  | true => exact absurd (by unfold Stp.noneS; rw [show Stp.zeroS s.y s.m s.v s.d s.h s.i s.s s.u = true from hz]; rfl) hn
theorem like_all {s o : St} {Y : Int} : ((likeV s o Y).zero = s.zero) ∧ (s.chk = 0 → (likeV s o Y).chk = 0) ∧ leS (likeV s o Y) Y = leS s Y ∧ lcS (likeV s o Y) Y = lcS s Y := by
  unfold likeV
  split
  · rename_i h
    obtain ⟨a, b, c⟩ := h
    exact ⟨by rw [(le_ok a).2, (le_ok b).2], fun _ => (le_ok b).1, by rw [a, b], c.symm⟩
  · exact ⟨rfl, fun h => h, rfl, rfl⟩
/-- two records that set clocks in a year in one way -/
structure Alike (x r : Rc) (Y : Int) : Prop where
  bd : x.Bd
  ok : x.ok = r.ok
  eb : x.b = r.b
  ec : x.c = r.c
  ed : x.d = r.d
  lp : leS x.p Y = leS r.p Y
  lq : leS x.q Y = leS r.q Y
  cp : lcS x.p Y = lcS r.p Y
  cq : lcS x.q Y = lcS r.q Y
theorem Alike.self {r : Rc} {Y : Int} (B : r.Bd) : Alike r r Y := ⟨B, rfl, rfl, rfl, rfl, rfl, rfl, rfl, rfl⟩
theorem ok_parts {r : Rc} (h : r.ok = true) : r.p.zero = r.q.zero ∧ r.p.chk = 0 ∧ r.q.chk = 0 ∧ [offS r.b r.c, offS r.b r.d].all near = true := by
  have h' : rcOk r.b r.c r.d r.p r.q = true := h
  unfold rcOk at h'
  simp only [Bool.and_eq_true, beq_iff_eq] at h'
  exact ⟨h'.1, h'.2.1, h'.2.2.1, h'.2.2.2⟩
theorem ok_mk {r : Rc} (a : r.p.zero = r.q.zero) (b : r.p.chk = 0) (c : r.q.chk = 0) (d : [offS r.b r.c, offS r.b r.d].all near = true) : r.ok = true := by
  show rcOk r.b r.c r.d r.p r.q = true
  unfold rcOk
  rw [a, b, c, d]; simp
theorem shRec_alike {r o : Rc} {Y : Int} (B : r.Bd) (Bo : o.Bd) : Alike (shRec r o Y) r Y := by
  unfold shRec
  split
  · rename_i h
    obtain ⟨k, ko⟩ := h
    obtain ⟨a1, a2, a3, a4⟩ := ok_parts k
    have p := @like_all r.p o.p Y
    have q := @like_all r.q o.q Y
    refine ⟨⟨B.b, B.c, B.d, like_bd B.p Bo.p, like_bd B.q Bo.q⟩, ?_, rfl, rfl, rfl, p.2.2.1, q.2.2.1, p.2.2.2, q.2.2.2⟩
    rw [k]
    exact ok_mk (by rw [p.1, q.1]; exact a1) (p.2.1 a2) (q.2.1 a3) a4
  · exact Alike.self B
theorem sec_alike {s t : St} {Y off : Int} (h1 : leS s Y = leS t Y) (h2 : lcS s Y = lcS t Y) : secV s Y off = secV t Y off := by unfold secV; rw [h1, h2]
theorem trE_alike {x r : Rc} {Y : Int} (h : Alike x r Y) : trE x.b x.c x.d x.p x.q Y = trE r.b r.c r.d r.p r.q Y := by
  have e : rcOk x.b x.c x.d x.p x.q = rcOk r.b r.c r.d r.p r.q := h.ok
  unfold trE; rw [e]
theorem tr_alike {x r : Rc} {Y : Int} (h : Alike x r Y) : x.tr Y = r.tr Y ∧ x.ts Y = r.ts Y := by
  have e := trE_alike h
  have a : trA x.b x.c x.d x.p x.q Y = trA r.b r.c r.d r.p r.q Y := by unfold trA; rw [e, h.eb, h.ec, sec_alike h.lq h.cq]
  have b : trB x.b x.c x.d x.p x.q Y = trB r.b r.c r.d r.p r.q Y := by unfold trB; rw [e, h.eb, h.ed, sec_alike h.lp h.cp]
  exact ⟨a, b⟩
theorem state_alike {x r : Rc} {Y : Int} (h : Alike x r Y) (t : Int) : x.off Y t = r.off Y t ∧ x.sum Y t = r.sum Y t := by
  obtain ⟨a, b⟩ := tr_alike h
  have s : x.sum Y t = r.sum Y t := by
    show sumB (x.tr Y) (x.ts Y) t = sumB (r.tr Y) (r.ts Y) t
    rw [a, b]
  refine ⟨?_, s⟩
  unfold Rc.off Rc.std Rc.dst
  rw [s, h.eb, h.ec, h.ed]
theorem spL_alike {x r : Rc} {Y : Int} (h : Alike x r Y) : spL x Y = spL r Y := by
  obtain ⟨a, b⟩ := tr_alike h
  have ho : x.off Y = r.off Y := funext fun t => (state_alike h t).1
  have hs : ∀ t, x.sum Y t = r.sum Y t := fun t => (state_alike h t).2
  have hp : ∀ t, x.sp Y t = r.sp Y t := fun t => by unfold Rc.sp; rw [ho, hs]
  have hst : ∀ s t, spStep x Y s t = spStep r Y s t := fun s t => by unfold spStep; rw [ho, hs, hp]
  unfold spL sp2 sp1 sp0
  rw [hst, hst, hp, ho, hs, a, b]
end Go.Proofs.YtefcjccapekjdaaDoor.Sh
