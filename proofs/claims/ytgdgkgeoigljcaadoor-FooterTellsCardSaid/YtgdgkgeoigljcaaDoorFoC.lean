/-
  What the document's reader of footers answers, in plain Lean: it is what the program's answers.
-/
import Derived.Test.YtgdgkgeoigljcaaDoorFoB
namespace Go.Proofs.YtgdgkgeoigljcaaDoor.Fo
open Go.ChangeShapes Go.WideShapes Go.ChangeAt Go.RowKit
open Go.Proofs.YtgdgkgeoigljcaaDoor
open Go.Proofs.YtgdgkgeoigljcaaDoor.Wd
open Go.Proofs.YtgdgkgeoigljcaaDoor.Rec
open Go.Proofs.YtgdgkgeoigljcaaDoor.Yr
open Go.Proofs.YtgdgkgeoigljcaaDoor.Tb
set_option linter.unusedVariables false
set_option linter.unusedSimpArgs false
def nameQ (x : Rs) : List UInt8 × Rs :=
  if ltN x.s = 0 then match x.s with
    | [] => ([], ⟨[], true⟩)
    | b :: r => if b = 60 ∧ (cutC 62 r).2.2 = true then ((cutC 62 r).1, ⟨(cutC 62 r).2.1, x.bad⟩) else ([], ⟨b :: r, true⟩)
  else (x.s.take (ltN x.s), ⟨x.s.drop (ltN x.s), x.bad⟩)
/-- hours, and what may follow them -/
def unitQ (u : Int) (x : Int × Rs) : Int × Rs := ((x.1 + u * ((numR 4 (mayR 58 x.2).2).1 : Int)), (numR 4 (mayR 58 x.2).2).2)
def absQ (x : Rs) : Int × Rs :=
  let a : Int × Rs := (((numR 4 x).1 : Int) * 3600, (numR 4 x).2)
  if (mayR 58 a.2).1 = true then (if (mayR 58 (unitQ 60 a).2).1 = true then unitQ 1 (unitQ 60 a) else unitQ 60 a) else a
def timQ (x : Rs) : Int × Rs := ((if (mayR 45 x).1 = true then -(absQ (mayR 45 x).2).1 else (absQ (mayR 45 x).2).1), (absQ (mayR 45 x).2).2)
def u16 (z : Int) : Int := IntKind.u16.wrap z
def stQ (x : Rs) : St × Rs :=
  let n1 := numR 4 (mayR 77 x).2; let n2 := numR 4 (mayR 46 n1.2).2; let n3 := numR 4 (mayR 46 n2.2).2
  if (mayR 47 n3.2).1 = true then
    let t := timQ (mayR 47 n3.2).2
    (⟨0, (n1.1 : Int), (n3.1 : Int), (n2.1 : Int), u16 (t.1.tdiv 3600), u16 ((t.1.tdiv 60).tmod 60), u16 (t.1.tmod 60), 0⟩, t.2)
  else (⟨0, (n1.1 : Int), (n3.1 : Int), (n2.1 : Int), 2, 0, 0, 0⟩, n3.2)
def dstQ (a : Int) (x : Rs) : Int × Rs := if x.s = [] ∨ (mayR 44 x).1 = true then (a + 3600, x) else (-(timQ x).1, (timQ x).2)
def parQ (s : List UInt8) : Pr :=
  let n := nameQ ⟨s, false⟩
  let o := timQ n.2
  if o.2.s = [] then ⟨mkR (-o.1) (-o.1) St.nil St.nil, mkE (-o.1) (-o.1) St.nil St.nil, n.1, [], o.2⟩
  else
    let d := nameQ o.2
    let b := dstQ (-o.1) d.2
    let su := stQ (mayR 44 b.2).2
    let wi := stQ (mayR 44 su.2).2
    ⟨mkR (-o.1) b.1 wi.1 su.1, mkE (-o.1) b.1 wi.1 su.1, n.1, d.1, wi.2⟩
def Pr.okQ (p : Pr) (s : List UInt8) : Prop := p.x.bad = false ∧ p.e = 0 ∧ foE p.r p.n p.d = 0 ∧ foT p.r p.n p.d = s
instance (p : Pr) (s : List UInt8) : Decidable (p.okQ s) := by unfold Pr.okQ; infer_instance
def parVQ (s : List UInt8) : Value := if (parQ s).okQ s then .tuple #[(parQ s).r.V, .string (B (parQ s).n), .string (B (parQ s).d), .int .i64 0] else .tuple #[Rc.nil.V, .string ⟨#[]⟩, .string ⟨#[]⟩, .int .i64 4]
theorem numq_get {n : Nat} {rest : List UInt8} (bad : Bool) (hn : n < 100) (hr : Hd dgB rest) : numR 4 ⟨numT n ++ rest, bad⟩ = (n, ⟨rest, bad⟩) := by
  unfold numT
  by_cases q : n < 10
  · rw [if_pos q]; exact num1 4 bad q (.inr hr) (by decide)
  · rw [if_neg q]
    show numR 4 ⟨UInt8.ofNat (48 + n / 10) :: UInt8.ofNat (48 + n % 10) :: rest, bad⟩ = _
    have h1 : n / 10 < 10 := by omega
    have h2 : n % 10 < 10 := by omega
    have hc : cntK 4 (UInt8.ofNat (48 + n / 10) :: UInt8.ofNat (48 + n % 10) :: rest) = 2 := by
      show (if dgB _ = true then (if dgB _ = true then cntK 2 rest + 1 else 0) + 1 else 0) = 2
      rw [if_pos (dg_n h1), if_pos (dg_n h2), cnt_stop 2 hr]
    rw [num_at bad hc]
    show ((0 * 10 + ((UInt8.ofNat (48 + n / 10)).toNat - 48)) * 10 + ((UInt8.ofNat (48 + n % 10)).toNat - 48), (⟨rest, bad || false⟩ : Rs)) = _
    rw [tn h1, tn h2, Bool.or_false]
    congr 1; omega
theorem twoq_get {n : Nat} {rest : List UInt8} (bad : Bool) (hn : n < 100) (hr : Hd dgB rest) : numR 4 ⟨UInt8.ofNat (48 + n / 10 % 10) :: UInt8.ofNat (48 + n % 10) :: rest, bad⟩ = (n, ⟨rest, bad⟩) := by
  have h1 : n / 10 % 10 < 10 := by omega
  have h2 : n % 10 < 10 := by omega
  have hc : cntK 4 (UInt8.ofNat (48 + n / 10 % 10) :: UInt8.ofNat (48 + n % 10) :: rest) = 2 := by
    show (if dgB _ = true then (if dgB _ = true then cntK 2 rest + 1 else 0) + 1 else 0) = 2
    rw [if_pos (dg_n h1), if_pos (dg_n h2), cnt_stop 2 hr]
  rw [num_at bad hc]
  show ((0 * 10 + ((UInt8.ofNat (48 + n / 10 % 10)).toNat - 48)) * 10 + ((UInt8.ofNat (48 + n % 10)).toNat - 48), (⟨rest, bad || false⟩ : Rs)) = _
  rw [tn h1, tn h2, Bool.or_false]
  congr 1; omega
theorem ltN_app_pos {a : List UInt8} (rest : List UInt8) (h : ltN a = a.length) (h0 : 0 < a.length) (hr : Hd letB rest) : ltN (a ++ rest) = a.length := lt_app hr a h
theorem nameq_get {a rest : List UInt8} (bad : Bool) (ha : nameB a = true) (hr : Hd letB rest) : nameQ ⟨nameT a ++ rest, bad⟩ = (a, ⟨rest, bad⟩) := by
  obtain ⟨h1, h2, h3⟩ := name_parts ha
  unfold nameT
  by_cases q : ltN a = a.length
  · rw [if_pos q]
    unfold nameQ
    dsimp only
    rw [lt_app hr a q, if_neg (by omega), List.take_left, List.drop_left]
  · rw [if_neg q]
    show nameQ ⟨60 :: ((a ++ [62]) ++ rest), bad⟩ = _
    unfold nameQ
    dsimp only
    rw [if_pos (by rfl), List.append_assoc, show [62] ++ rest = 62 :: rest from rfl, cut_app 62 rest a (fun b hb e => by have := h3 b hb; subst e; revert this; decide)]
    rw [if_pos ⟨rfl, rfl⟩]
/-- hours, minutes, seconds, as they are written -/
def hmsT (h i s : Nat) (f g : Bool) : List UInt8 := numT h ++ ((if f = true then twoT i else []) ++ (if g = true then twoT s else []))
theorem absq_get {h i s : Nat} {f g : Bool} {rest : List UInt8} (bad : Bool) (hh : h < 100) (hi : i < 100) (hs : s < 100) (h1 : f = false → i = 0 ∧ g = false) (h2 : g = false → s = 0) (hr : Hd stopO rest) :
    absQ ⟨hmsT h i s f g ++ rest, bad⟩ = ((h : Int) * 3600 + 60 * (i : Int) + (s : Int), ⟨rest, bad⟩) := by
  unfold absQ hmsT
  dsimp only
  rw [List.append_assoc, List.append_assoc]
  cases f with
  | false =>
    obtain ⟨rfl, rfl⟩ := h1 rfl
    have := h2 rfl
    subst this
    simp only [Bool.false_eq_true, if_false, List.nil_append]
    rw [numq_get bad hh (stop_dg hr)]
    dsimp only
    rw [may_miss bad (stop_58 hr)]
    simp
  | true =>
    simp only [if_true]
    rw [two_cons i, numq_get bad hh (Hd.cons (by decide))]
    dsimp only
    rw [may_hit, if_pos rfl]
    have hu : ∀ z : Int, Hd dgB ((if g = true then twoT s else []) ++ rest) → unitQ 60 (z, (⟨58 :: (UInt8.ofNat (48 + i / 10 % 10) :: UInt8.ofNat (48 + i % 10) :: ((if g = true then twoT s else []) ++ rest)), bad⟩ : Rs)) = (z + 60 * (i : Int), ⟨(if g = true then twoT s else []) ++ rest, bad⟩) := by
      intro z hq
      unfold unitQ
      dsimp only
      rw [may_hit]
      dsimp only
      rw [twoq_get bad hi hq]
    cases g with
    | false =>
      have := h2 rfl
      subst this
      simp only [Bool.false_eq_true, if_false, List.nil_append] at hu ⊢
      rw [hu _ (stop_dg hr)]
      dsimp only
      rw [may_miss bad (stop_58 hr)]
      dsimp only
      rw [if_neg Bool.false_ne_true]
      simp
    | true =>
      simp only [if_true] at hu ⊢
      rw [hu _ (Hd.cons (by decide))]
      dsimp only
      rw [two_cons, may_hit, if_pos rfl]
      unfold unitQ
      dsimp only
      rw [may_hit]
      dsimp only
      rw [twoq_get bad hs (stop_dg hr)]
      simp
theorem offT_hms (z : Int) : offT z = (if 0 < z then [45] else []) ++ hmsT (z.natAbs / 3600) (z.natAbs % 3600 / 60) 0 (decide (z.natAbs % 3600 / 60 ≠ 0)) false := by
  unfold offT hmsT
  by_cases q : z.natAbs % 3600 / 60 = 0
  · have q' : decide (z.natAbs % 3600 / 60 ≠ 0) = false := decide_eq_false (fun e => e q)
    rw [if_pos q, q']; simp
  · have q' : decide (z.natAbs % 3600 / 60 ≠ 0) = true := decide_eq_true q
    rw [if_neg q, q']; simp
theorem hms_head (h i s : Nat) (f g : Bool) (hh : h < 100) (rest : List UInt8) {P : UInt8 → Bool} (k : ∀ k, k < 10 → P (UInt8.ofNat (48 + k)) = false) : Hd P (hmsT h i s f g ++ rest) := by
  unfold hmsT; rw [List.append_assoc]; exact num_head hh _ k
theorem timq_off {z : Int} {rest : List UInt8} (bad : Bool) (hz : -86400 ≤ z ∧ z ≤ 86400) (hm : z % 60 = 0) (hr : Hd stopO rest) : timQ ⟨offT z ++ rest, bad⟩ = (-z, ⟨rest, bad⟩) := by
  have hA := absq_get (h := z.natAbs / 3600) (i := z.natAbs % 3600 / 60) (s := 0) (f := decide (z.natAbs % 3600 / 60 ≠ 0)) (g := false) (rest := rest) bad (by omega) (by omega) (by omega) (fun e => ⟨by simpa using e, rfl⟩) (fun _ => rfl) hr
  rw [offT_hms]
  unfold timQ
  by_cases hp : 0 < z
  · rw [if_pos hp, List.append_assoc, show ([45] : List UInt8) ++ (hmsT (z.natAbs / 3600) (z.natAbs % 3600 / 60) 0 (decide (z.natAbs % 3600 / 60 ≠ 0)) false ++ rest) = 45 :: (hmsT (z.natAbs / 3600) (z.natAbs % 3600 / 60) 0 (decide (z.natAbs % 3600 / 60 ≠ 0)) false ++ rest) from rfl, may_hit]
    dsimp only
    rw [hA, if_pos rfl]
    dsimp only
    congr 1; omega
  · rw [if_neg hp, List.nil_append, may_miss bad (hms_head _ _ _ _ _ (by omega) _ (dig_ne (by decide)))]
    dsimp only
    rw [hA, if_neg (by decide)]
    dsimp only
    congr 1; omega
theorem timq_hms {h i s : Nat} {f g : Bool} {rest : List UInt8} (bad : Bool) (hh : h < 100) (hi : i < 100) (hs : s < 100) (h1 : f = false → i = 0 ∧ g = false) (h2 : g = false → s = 0) (hr : Hd stopO rest) :
    timQ ⟨hmsT h i s f g ++ rest, bad⟩ = ((h : Int) * 3600 + 60 * (i : Int) + (s : Int), ⟨rest, bad⟩) := by
  unfold timQ
  rw [may_miss bad (hms_head _ _ _ _ _ hh _ (dig_ne (by decide)))]
  dsimp only
  rw [absq_get bad hh hi hs h1 h2 hr, if_neg (by decide)]
theorem u16_id {n : Nat} (h : n < 100) : u16 (n : Int) = n := by unfold u16; simp [IntKind.wrap, IntKind.bits, IntKind.signed]; omega
theorem clT_hms {h i s m v d : Nat} (q : ¬ ((h : Int) = 2 ∧ (i : Int) = 0 ∧ (s : Int) = 0)) : clT ⟨0, m, v, d, h, i, s, 0⟩ = 47 :: hmsT h i s (decide (i ≠ 0 ∨ s ≠ 0)) (decide (s ≠ 0)) := by
  unfold clT hmsT
  rw [if_neg q]
  simp only [Int.toNat_natCast]
  by_cases q1 : i = 0
  · subst q1
    by_cases q2 : s = 0
    · subst q2; rfl
    · have e : ¬ ((s : Int) = 0) := by omega
      simp [q2, e]
  · have e1 : ¬ ((i : Int) = 0) := by omega
    by_cases q2 : s = 0
    · subst q2; simp [q1, e1]
    · have e : ¬ ((s : Int) = 0) := by omega
      simp [q1, q2, e1, e]
theorem stq_get {x : St} {m d v h i s : Nat} (hx : Ns x m d v h i s) {rest : List UInt8} (bad : Bool) (hr : Hd stopS rest) : stQ ⟨stT x ++ rest, bad⟩ = (x, ⟨rest, bad⟩) := by
  obtain ⟨rfl, hm, hd, hv, hh, hi, hs⟩ := hx
  have e0 : stT ⟨0, m, v, d, h, i, s, 0⟩ ++ rest = 77 :: (numT m ++ 46 :: (numT d ++ 46 :: (numT v ++ (clT ⟨0, m, v, d, h, i, s, 0⟩ ++ rest)))) := by
    unfold stT
    show 77 :: ((numT ((m : Int)).toNat ++ 46 :: (numT ((d : Int)).toNat ++ 46 :: (numT ((v : Int)).toNat ++ _))) ++ rest) = _
    simp only [Int.toNat_natCast, List.append_assoc, List.cons_append]
  rw [e0]
  unfold stQ
  dsimp only
  rw [may_hit]
  dsimp only
  rw [numq_get bad hm (Hd.cons (by decide))]
  dsimp only
  rw [may_hit]
  dsimp only
  rw [numq_get bad (Nat.lt_trans hd (by decide)) (Hd.cons (by decide))]
  dsimp only
  rw [may_hit]
  dsimp only
  by_cases q : (h : Int) = 2 ∧ (i : Int) = 0 ∧ (s : Int) = 0
  · have e : clT ⟨0, m, v, d, h, i, s, 0⟩ = [] := by unfold clT; rw [if_pos q]
    rw [e, List.nil_append, numq_get bad (Nat.lt_trans hv (by decide)) (stop_dg (stopS_O hr))]
    dsimp only
    rw [may_miss bad (stopS_47 hr)]
    dsimp only
    rw [if_neg Bool.false_ne_true]
    obtain ⟨q1, q2, q3⟩ := q
    have : h = 2 ∧ i = 0 ∧ s = 0 := by omega
    obtain ⟨rfl, rfl, rfl⟩ := this
    rfl
  · rw [clT_hms q, List.cons_append, numq_get bad (Nat.lt_trans hv (by decide)) (Hd.cons (by decide))]
    dsimp only
    rw [may_hit, if_pos rfl]
    dsimp only
    rw [timq_hms bad hh (by omega) (by omega) (fun e => by simp at e; simp [e]) (fun e => by simpa using e) (stopS_O hr)]
    dsimp only
    have t1 : ((h : Int) * 3600 + 60 * (i : Int) + (s : Int)).tdiv 3600 = (h : Int) := by rw [Int.tdiv_eq_ediv_of_nonneg (by omega)]; omega
    have t2 : (((h : Int) * 3600 + 60 * (i : Int) + (s : Int)).tdiv 60).tmod 60 = (i : Int) := by
      rw [Int.tdiv_eq_ediv_of_nonneg (by omega), Int.tmod_eq_emod_of_nonneg (by omega)]; omega
    have t3 : ((h : Int) * 3600 + 60 * (i : Int) + (s : Int)).tmod 60 = (s : Int) := by rw [Int.tmod_eq_emod_of_nonneg (by omega)]; omega
    rw [t1, t2, t3, u16_id hh, u16_id (by omega), u16_id (by omega)]
theorem mkpl (z : Int) : mkR z z St.nil St.nil = plR z ∧ mkE z z St.nil St.nil = plE z := by
  have hk : okO z = true → rcOk (-(z / 60)) 0 ((z - z) / 60) St.nil St.nil = true := fun h => by
    obtain ⟨h1, h2⟩ := okO_iff h
    unfold rcOk
    have e : offS (-(z / 60)) 0 = z := by unfold offS; omega
    have e2 : offS (-(z / 60)) ((z - z) / 60) = z := by unfold offS; omega
    rw [e, e2]
    have hn : near z = true := by unfold near; exact decide_eq_true ⟨by omega, by omega⟩
    simp only [List.all_cons, List.all_nil, hn]
    decide
  unfold mkR mkE plR plE mkOk
  cases h : okO z with
  | true =>
    rw [hk h]
    have : (z - z) / 60 = 0 := by omega
    rw [this]
    exact ⟨rfl, rfl⟩
  | false => exact ⟨rfl, rfl⟩
theorem parq_back {r : Rc} {a b : List UInt8} (hB : r.Bd) (he : foE r a b = 0) : parQ (foT r a b) = ⟨nrm r, 0, a, b, ⟨[], false⟩⟩ := by
  obtain ⟨h1, h2, h3, h4, h5, h6⟩ := foE_parts he
  have hn := Rc.near h1
  obtain ⟨_, c1, c2, _⟩ := ok_parts h1
  obtain ⟨_, _, _, hBp, hBq⟩ := hB
  unfold parQ foT
  dsimp only
  rw [nameq_get false h4 (off_head hn.1 _ (by decide) dig_not_let)]
  dsimp only
  cases hz : r.p.zero with
  | true =>
    rw [if_pos rfl, timq_off false hn.1 (mod60 _ _) Hd.nil]
    dsimp only
    rw [if_pos rfl, h6 hz, Int.neg_neg, (mkpl _).1, (mkpl _).2]
    unfold nrm
    rw [if_pos hz, show plE r.std = 0 by unfold plE; rw [if_pos (okO_of _ _ hn.1)]]
  | false =>
    have hq : r.q.zero = false := by rw [← q_zero h1]; exact hz
    obtain ⟨m, d, v, h, i, s, np⟩ := ns_of hBp hz c1 h2
    obtain ⟨m', d', v', h', i', s', nq⟩ := ns_of hBq hq c2 h3
    have hb := h5 hz
    rw [if_neg Bool.false_ne_true]
    rw [timq_off false hn.1 (mod60 _ _) (name_head hb _ (by decide) (fun c hc => by
      unfold stopO
      rw [Bool.or_eq_false_iff, beq_eq_false_iff_ne]
      refine ⟨?_, by rintro rfl; revert hc; decide⟩
      unfold letB at hc; unfold dgB
      rw [decide_eq_true_eq] at hc
      exact decide_eq_false (by omega)))]
    dsimp only
    have hne : nameT b ++ ((if r.dst = r.std + 3600 then [] else offT r.dst) ++ 44 :: (stT r.q ++ 44 :: stT r.p)) ≠ [] := by
      unfold nameT
      split
      · cases b with
        | nil => exact absurd (name_parts hb).1 (by simp)
        | cons c t => simp
      · simp
    rw [if_neg hne]
    have e44 : Hd letB ((if r.dst = r.std + 3600 then [] else offT r.dst) ++ 44 :: (stT r.q ++ 44 :: stT r.p)) := by
      split
      · exact Hd.cons (by decide)
      · exact off_head hn.2 _ (by decide) dig_not_let
    rw [nameq_get false hb e44]
    dsimp only
    have hd : dstQ (- -r.std) ⟨(if r.dst = r.std + 3600 then [] else offT r.dst) ++ 44 :: (stT r.q ++ 44 :: stT r.p), false⟩ = (r.dst, ⟨44 :: (stT r.q ++ 44 :: stT r.p), false⟩) := by
      unfold dstQ
      rw [Int.neg_neg]
      by_cases q : r.dst = r.std + 3600
      · rw [if_pos q, List.nil_append, may_hit, if_pos (.inr rfl), q]
      · rw [if_neg q, may_miss false (off_head hn.2 _ (by decide) (dig_ne (by decide))), if_neg (by
          rintro (e | e)
          · simp at e
          · cases e)]
        rw [timq_off false hn.2 (mod60 _ _) (Hd.cons (by decide)), Int.neg_neg]
    rw [hd]
    dsimp only
    rw [may_hit]
    dsimp only
    rw [stq_get nq false (Hd.cons (by decide))]
    dsimp only
    rw [may_hit]
    dsimp only
    rw [show stT r.p = stT r.p ++ [] from (List.append_nil _).symm, stq_get np false Hd.nil]
    dsimp only
    rw [Int.neg_neg]
    have hk := mk_ok h1
    have hE : mkE r.std r.dst r.p r.q = 0 := by
      unfold mkOk at hk; rw [Bool.and_eq_true] at hk
      unfold mkE; rw [if_pos hk.1, if_pos hk.2]
    rw [hE]
    unfold nrm
    rw [if_neg (by rw [hz]; decide)]
theorem wr_bd (z : Int) : 0 ≤ u16 z ∧ u16 z ≤ 65535 := by unfold u16; simp [IntKind.wrap, IntKind.bits, IntKind.signed]; omega
theorem numq_le (x : Rs) : (numR 4 x).1 ≤ 9999 := by
  unfold numR
  have h1 : (x.s.take (cntK 4 x.s)).length ≤ 4 := Nat.le_trans (List.length_take_le _ _) (cnt_le 4 x.s).1
  have h2 := cnt_dig 4 x.s
  generalize x.s.take (cntK 4 x.s) = l at *
  have hv : ∀ b ∈ l, b.toNat - 48 ≤ 9 := fun b hb => by have := h2 b hb; unfold dgB at this; rw [decide_eq_true_eq] at this; omega
  match l, h1 with
  | [], _ => exact Nat.zero_le _
  | [a], _ =>
    have := hv a (by simp)
    show 0 * 10 + (a.toNat - 48) ≤ 9999; omega
  | [a, b], _ =>
    have := hv a (by simp); have := hv b (by simp)
    show (0 * 10 + (a.toNat - 48)) * 10 + (b.toNat - 48) ≤ 9999; omega
  | [a, b, c], _ =>
    have := hv a (by simp); have := hv b (by simp); have := hv c (by simp)
    show ((0 * 10 + (a.toNat - 48)) * 10 + (b.toNat - 48)) * 10 + (c.toNat - 48) ≤ 9999; omega
  | [a, b, c, d], _ =>
    have := hv a (by simp); have := hv b (by simp); have := hv c (by simp); have := hv d (by simp)
    show (((0 * 10 + (a.toNat - 48)) * 10 + (b.toNat - 48)) * 10 + (c.toNat - 48)) * 10 + (d.toNat - 48) ≤ 9999; omega
  | a :: b :: c :: d :: e :: r, h => simp at h
theorem stq_bd (x : Rs) : (stQ x).1.Bd := by
  have q : ∀ z : Rs, (0 : Int) ≤ ((numR 4 z).1 : Int) ∧ ((numR 4 z).1 : Int) ≤ 65535 := fun z => by have := numq_le z; omega
  have z0 : (0 : Int) ≤ 0 ∧ (0 : Int) ≤ 65535 := by omega
  have z2 : (0 : Int) ≤ 2 ∧ (2 : Int) ≤ 65535 := by omega
  unfold stQ
  dsimp only
  split
  · exact ⟨z0, q _, q _, q _, wr_bd _, wr_bd _, wr_bd _, z0⟩
  · exact ⟨z0, q _, q _, q _, z2, z0, z0, z0⟩
theorem timq_bd (x : Rs) : -100000000 ≤ (timQ x).1 ∧ (timQ x).1 ≤ 100000000 := by
  have ha : ∀ y : Rs, 0 ≤ (absQ y).1 ∧ (absQ y).1 ≤ 100000000 := fun y => by
    have := numq_le y
    have := numq_le (mayR 58 (((numR 4 y).1 : Int) * 3600, (numR 4 y).2).2).2
    have := numq_le (mayR 58 (unitQ 60 (((numR 4 y).1 : Int) * 3600, (numR 4 y).2)).2).2
    unfold absQ
    dsimp only
    split
    · split
      · show 0 ≤ (((numR 4 y).1 : Int) * 3600 + 60 * _) + 1 * _ ∧ (((numR 4 y).1 : Int) * 3600 + 60 * _) + 1 * _ ≤ 100000000
        constructor <;> omega
      · show 0 ≤ ((numR 4 y).1 : Int) * 3600 + 60 * _ ∧ ((numR 4 y).1 : Int) * 3600 + 60 * _ ≤ 100000000
        constructor <;> omega
    · show 0 ≤ ((numR 4 y).1 : Int) * 3600 ∧ ((numR 4 y).1 : Int) * 3600 ≤ 100000000
      constructor <;> omega
  have := ha (mayR 45 x).2
  unfold timQ
  dsimp only
  split <;> omega
theorem dstq_bd (a : Int) (x : Rs) (h : -100000000 ≤ a ∧ a ≤ 100000000) : -200000000 ≤ (dstQ a x).1 ∧ (dstQ a x).1 ≤ 200000000 := by
  have := timq_bd x
  unfold dstQ
  split
  · show _ ≤ a + 3600 ∧ a + 3600 ≤ _; omega
  · show _ ≤ -(timQ x).1 ∧ -(timQ x).1 ≤ _; omega
theorem parq_rbd (s : List UInt8) : (parQ s).r.Bd := by
  unfold parQ
  dsimp only
  split
  · exact mkR_bd _ _ _ _ nil_bd nil_bd
  · exact mkR_bd _ _ _ _ (stq_bd _) (stq_bd _)
/-- both answer the same -/
theorem par_same (s : List UInt8) : parVQ s = parV s := by
  unfold parVQ parV
  by_cases h : (parW s).ok s
  · have hB := (par_names s).2.2
    have e : s = foT (parW s).r (parW s).n (parW s).d := h.2.2.2.2.symm
    have e1 := parq_back hB h.2.2.2.1
    have e2 := par_back hB h.2.2.2.1
    rw [← e] at e1 e2
    have er : nrm (parW s).r = (parW s).r := (congrArg Pr.r e2).symm
    have hok : (parQ s).okQ s := by rw [e1]; exact ⟨rfl, rfl, by rw [er]; exact h.2.2.2.1, by rw [er]; exact h.2.2.2.2⟩
    rw [if_pos h, if_pos hok, e1]
    dsimp only
    rw [er]
  · rw [if_neg h, if_neg]
    intro k
    apply h
    have hB := parq_rbd s
    have e : s = foT (parQ s).r (parQ s).n (parQ s).d := k.2.2.2.symm
    have e1 := parq_back hB k.2.2.1
    have e2 := par_back hB k.2.2.1
    rw [← e] at e1 e2
    have er : nrm (parQ s).r = (parQ s).r := (congrArg Pr.r e1).symm
    rw [e2]
    exact ⟨rfl, rfl, rfl, by rw [er]; exact k.2.2.1, by rw [er]; exact k.2.2.2⟩
end Go.Proofs.YtgdgkgeoigljcaaDoor.Fo
