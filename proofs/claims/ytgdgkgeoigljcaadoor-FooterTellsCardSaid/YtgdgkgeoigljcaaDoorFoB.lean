/-
  What is read of a footer's text is what was written. The plain law.
-/
import Derived.Test.YtgdgkgeoigljcaaDoorFo9
import Derived.Test.YtgdgkgeoigljcaaDoorSpM
namespace Go.Proofs.YtgdgkgeoigljcaaDoor.Fo
open Go.ChangeShapes Go.WideShapes Go.ChangeAt Go.RowKit
open Go.Proofs.YtgdgkgeoigljcaaDoor
open Go.Proofs.YtgdgkgeoigljcaaDoor.Wd
open Go.Proofs.YtgdgkgeoigljcaaDoor.Rec
open Go.Proofs.YtgdgkgeoigljcaaDoor.Yr
open Go.Proofs.YtgdgkgeoigljcaaDoor.Tb
set_option linter.unusedVariables false
set_option linter.unusedSimpArgs false
/-- a text's first byte is none of these -/
def Hd (P : UInt8 → Bool) (l : List UInt8) : Prop := ∀ b r, l = b :: r → P b = false
theorem Hd.nil {P : UInt8 → Bool} : Hd P [] := fun b r h => by cases h
theorem Hd.cons {P : UInt8 → Bool} {b : UInt8} {r : List UInt8} (h : P b = false) : Hd P (b :: r) := fun c q e => by injection e with e1 _; subst e1; exact h
theorem Hd.imp {P Q : UInt8 → Bool} {l : List UInt8} (h : Hd P l) (k : ∀ b, P b = false → Q b = false) : Hd Q l := fun b r e => k b (h b r e)
theorem may_hit (c : UInt8) (r : List UInt8) (bad : Bool) : mayR c ⟨c :: r, bad⟩ = (true, ⟨r, bad⟩) := by unfold mayR; simp
theorem may_miss {c : UInt8} {l : List UInt8} (bad : Bool) (h : Hd (fun b => b == c) l) : mayR c ⟨l, bad⟩ = (false, ⟨l, bad⟩) := by
  unfold mayR
  cases l with
  | nil => rfl
  | cons b r =>
    have := h b r rfl
    simp only [beq_eq_false_iff_ne] at this
    simp [this]
theorem must_hit (c : UInt8) (r : List UInt8) (bad : Bool) : mustR c ⟨c :: r, bad⟩ = ⟨r, bad⟩ := by unfold mustR; rw [may_hit]; rfl
theorem tn {n : Nat} (h : n < 10) : (UInt8.ofNat (48 + n)).toNat = 48 + n := by rw [UInt8.toNat_ofNat']; omega
theorem dg_n {n : Nat} (h : n < 10) : dgB (UInt8.ofNat (48 + n)) = true := by unfold dgB; rw [tn h]; exact decide_eq_true (by omega)
theorem cnt_stop (k : Nat) {l : List UInt8} (h : Hd dgB l) : cntK k l = 0 := by
  cases k with
  | zero => rfl
  | succ k =>
    cases l with
    | nil => rfl
    | cons b r =>
      show (if dgB b = true then _ else 0) = 0
      rw [h b r rfl]; rfl
theorem num_at {k j : Nat} {l : List UInt8} (bad : Bool) (h : cntK k l = j) : numR k ⟨l, bad⟩ = (numN (l.take j), ⟨l.drop j, bad || j == 0⟩) := by subst h; rfl
theorem num1 (k : Nat) {n : Nat} {rest : List UInt8} (bad : Bool) (hn : n < 10) (hk : k = 1 ∨ Hd dgB rest) (h0 : k ≠ 0) : numR k ⟨UInt8.ofNat (48 + n) :: rest, bad⟩ = (n, ⟨rest, bad⟩) := by
  have hc : cntK k (UInt8.ofNat (48 + n) :: rest) = 1 := by
    match k, h0 with
    | k + 1, _ =>
      show (if dgB _ = true then cntK k rest + 1 else 0) = 1
      rw [if_pos (dg_n hn)]
      rcases hk with h | h
      · have : k = 0 := by omega
        subst this; rfl
      · rw [cnt_stop k h]
  rw [num_at bad hc]
  show (0 * 10 + ((UInt8.ofNat (48 + n)).toNat - 48), (⟨rest, bad || false⟩ : Rs)) = _
  rw [tn hn, Bool.or_false]
  congr 1; omega
theorem num2 {a b : Nat} {rest : List UInt8} (bad : Bool) (ha : a < 10) (hb : b < 10) : numR 2 ⟨UInt8.ofNat (48 + a) :: UInt8.ofNat (48 + b) :: rest, bad⟩ = (a * 10 + b, ⟨rest, bad⟩) := by
  have hc : cntK 2 (UInt8.ofNat (48 + a) :: UInt8.ofNat (48 + b) :: rest) = 2 := by
    show (if dgB _ = true then (if dgB _ = true then 0 + 1 else 0) + 1 else 0) = 2
    rw [if_pos (dg_n ha), if_pos (dg_n hb)]
  rw [num_at bad hc]
  show ((0 * 10 + ((UInt8.ofNat (48 + a)).toNat - 48)) * 10 + ((UInt8.ofNat (48 + b)).toNat - 48), (⟨rest, bad || false⟩ : Rs)) = _
  rw [tn ha, tn hb, Bool.or_false]
  congr 1; omega
theorem num_get {n : Nat} {rest : List UInt8} (bad : Bool) (hn : n < 100) (hr : Hd dgB rest) : numR 2 ⟨numT n ++ rest, bad⟩ = (n, ⟨rest, bad⟩) := by
  unfold numT
  by_cases q : n < 10
  · rw [if_pos q]; exact num1 2 bad q (.inr hr) (by decide)
  · rw [if_neg q]
    show numR 2 ⟨UInt8.ofNat (48 + n / 10) :: UInt8.ofNat (48 + n % 10) :: rest, bad⟩ = _
    rw [num2 bad (by omega) (by omega)]
    congr 1; omega
theorem num_get1 {n : Nat} {rest : List UInt8} (bad : Bool) (hn : n < 10) : numR 1 ⟨numT n ++ rest, bad⟩ = (n, ⟨rest, bad⟩) := by
  unfold numT; rw [if_pos hn]; exact num1 1 bad hn (.inl rfl) (by decide)
theorem two_get {n : Nat} {rest : List UInt8} (bad : Bool) (hn : n < 100) : numR 2 ⟨UInt8.ofNat (48 + n / 10 % 10) :: UInt8.ofNat (48 + n % 10) :: rest, bad⟩ = (n, ⟨rest, bad⟩) := by
  rw [num2 bad (by omega) (by omega)]
  congr 1; omega
theorem two_cons (n : Nat) (rest : List UInt8) : twoT n ++ rest = 58 :: (UInt8.ofNat (48 + n / 10 % 10) :: UInt8.ofNat (48 + n % 10) :: rest) := rfl
theorem lt_app {rest : List UInt8} (hr : Hd letB rest) : ∀ a : List UInt8, ltN a = a.length → ltN (a ++ rest) = a.length
  | [], _ => by
    cases rest with
    | nil => rfl
    | cons b r =>
      show (if letB b = true then _ else 0) = 0
      rw [hr b r rfl]; rfl
  | b :: r, h => by
    have e : (if letB b = true then ltN r + 1 else 0) = r.length + 1 := h
    by_cases q : letB b = true
    · rw [if_pos q] at e
      show (if letB b = true then ltN (r ++ rest) + 1 else 0) = _
      rw [if_pos q, lt_app hr r (by omega)]; rfl
    · rw [if_neg q] at e; omega
theorem cut_app (c : UInt8) (rest : List UInt8) : ∀ a : List UInt8, (∀ b ∈ a, b ≠ c) → cutC c (a ++ c :: rest) = (a, rest, true)
  | [], _ => by
    show (if c = c then _ else _) = _
    rw [if_pos rfl]
  | b :: r, h => by
    show (if b = c then _ else (b :: (cutC c (r ++ c :: rest)).1, (cutC c (r ++ c :: rest)).2.1, (cutC c (r ++ c :: rest)).2.2)) = _
    rw [if_neg (h b (by simp)), cut_app c rest r (fun x hx => h x (by simp [hx]))]
theorem name_parts {a : List UInt8} (ha : nameB a = true) : 3 ≤ a.length ∧ a.length ≤ 32 ∧ ∀ b ∈ a, nmC b = true := by
  unfold nameB at ha; rw [Bool.and_eq_true, decide_eq_true_eq] at ha
  exact ⟨ha.1.1, ha.1.2, List.all_eq_true.1 ha.2⟩
theorem let_head {b : UInt8} {r : List UInt8} (h : ltN (b :: r) = (b :: r).length) : letB b = true := by
  have e : (if letB b = true then ltN r + 1 else 0) = r.length + 1 := h
  by_cases q : letB b = true
  · exact q
  · rw [if_neg q] at e; omega
theorem name_get {a rest : List UInt8} (bad : Bool) (ha : nameB a = true) (hr : Hd letB rest) : nameR ⟨nameT a ++ rest, bad⟩ = (a, ⟨rest, bad⟩) := by
  obtain ⟨h1, h2, h3⟩ := name_parts ha
  unfold nameT
  by_cases q : ltN a = a.length
  · rw [if_pos q]
    have hm : mayR 60 ⟨a ++ rest, bad⟩ = (false, ⟨a ++ rest, bad⟩) := by
      refine may_miss bad ?_
      cases a with
      | nil => simp at h1
      | cons b r =>
        refine Hd.cons (r := r ++ rest) ?_
        have hl := let_head q
        rw [beq_eq_false_iff_ne]; rintro rfl; revert hl; decide
    unfold nameR; rw [hm]
    show (if false = true then _ else _) = _
    rw [if_neg (by decide)]
    show ((a ++ rest).take (ltN (a ++ rest)), (⟨(a ++ rest).drop (ltN (a ++ rest)), bad⟩ : Rs)) = _
    rw [lt_app hr a q, List.take_left, List.drop_left]
  · rw [if_neg q]
    show nameR ⟨60 :: ((a ++ [62]) ++ rest), bad⟩ = _
    unfold nameR; rw [may_hit, if_pos rfl]
    show ((cutC 62 ((a ++ [62]) ++ rest)).1, (⟨(cutC 62 ((a ++ [62]) ++ rest)).2.1, bad || !(cutC 62 ((a ++ [62]) ++ rest)).2.2⟩ : Rs)) = _
    rw [List.append_assoc, show [62] ++ rest = 62 :: rest from rfl, cut_app 62 rest a (fun b hb e => by have := h3 b hb; subst e; revert this; decide)]
    show (a, (⟨rest, bad || false⟩ : Rs)) = _
    rw [Bool.or_false]
theorem num_head {n : Nat} (hn : n < 100) (rest : List UInt8) {P : UInt8 → Bool} (h : ∀ k, k < 10 → P (UInt8.ofNat (48 + k)) = false) : Hd P (numT n ++ rest) := by
  unfold numT
  by_cases q : n < 10
  · rw [if_pos q]; exact Hd.cons (h n q)
  · rw [if_neg q]; exact Hd.cons (h (n / 10) (by omega))
theorem dig_ne {c : UInt8} (hc : dgB c = false) : ∀ k, k < 10 → (UInt8.ofNat (48 + k) == c) = false := fun k hk => by
  rw [beq_eq_false_iff_ne]; rintro rfl; rw [dg_n hk] at hc; cases hc
/-- what may follow an offset, or a time -/
def stopO (b : UInt8) : Bool := dgB b || b == 58
theorem stop_dg {l : List UInt8} (h : Hd stopO l) : Hd dgB l := h.imp (fun b e => by unfold stopO at e; rw [Bool.or_eq_false_iff] at e; exact e.1)
theorem stop_58 {l : List UInt8} (h : Hd stopO l) : Hd (fun b => b == 58) l := h.imp (fun b e => by unfold stopO at e; rw [Bool.or_eq_false_iff] at e; exact e.2)
theorem off_body {h m : Nat} {rest : List UInt8} (bad : Bool) (hh : h < 100) (hm : m < 100) (hr : Hd stopO rest) :
    ∃ Y, numR 2 ⟨numT h ++ ((if m = 0 then [] else twoT m) ++ rest), bad⟩ = (h, ⟨Y, bad⟩) ∧
      ((mayR 58 ⟨Y, bad⟩).1 = true → (numR 2 (mayR 58 ⟨Y, bad⟩).2) = (m, ⟨rest, bad⟩)) ∧ ((mayR 58 ⟨Y, bad⟩).1 = false → m = 0 ∧ (mayR 58 ⟨Y, bad⟩).2 = ⟨rest, bad⟩) := by
  by_cases q : m = 0
  · refine ⟨rest, ?_, ?_, ?_⟩
    · rw [if_pos q]; exact num_get bad hh (stop_dg hr)
    · rw [may_miss bad (stop_58 hr)]; intro e; cases e
    · intro _; rw [may_miss bad (stop_58 hr)]; exact ⟨q, rfl⟩
  · refine ⟨twoT m ++ rest, ?_, ?_, ?_⟩
    · rw [if_neg q]; exact num_get bad hh (Hd.cons (by decide))
    · intro _
      show numR 2 (mayR 58 ⟨58 :: (UInt8.ofNat (48 + m / 10 % 10) :: UInt8.ofNat (48 + m % 10) :: rest), bad⟩).2 = _
      rw [may_hit]; exact two_get bad hm
    · intro e
      have : (mayR 58 ⟨58 :: (UInt8.ofNat (48 + m / 10 % 10) :: UInt8.ofNat (48 + m % 10) :: rest), bad⟩).1 = false := e
      rw [may_hit] at this; cases this
theorem off_get {z : Int} {rest : List UInt8} (bad : Bool) (hz : -86400 ≤ z ∧ z ≤ 86400) (hm : z % 60 = 0) (hr : Hd stopO rest) : offR ⟨offT z ++ rest, bad⟩ = (z, ⟨rest, bad⟩) := by
  obtain ⟨Y, e1, e2, e3⟩ := off_body (h := z.natAbs / 3600) (m := z.natAbs % 3600 / 60) bad (by omega) (by omega) hr
  have key : ∀ (k : Bool) (x : Rs), mayR 45 x = (k, ⟨numT (z.natAbs / 3600) ++ ((if z.natAbs % 3600 / 60 = 0 then [] else twoT (z.natAbs % 3600 / 60)) ++ rest), bad⟩) → (if k = true then 0 ≤ z else z ≤ 0) → offR x = (z, ⟨rest, bad⟩) := by
    intro k x hk hs
    unfold offR
    rw [hk]
    show (if (mayR 58 (numR 2 ⟨_, bad⟩).2).1 = true then _ else _) = _
    rw [e1]
    cases q : (mayR 58 ⟨Y, bad⟩).1 with
    | true =>
      rw [if_pos rfl]
      show (sg k * (((z.natAbs / 3600 : Nat) : Int) * 3600 + ((numR 2 (mayR 58 ⟨Y, bad⟩).2).1 : Int) * 60), (numR 2 (mayR 58 ⟨Y, bad⟩).2).2) = _
      rw [e2 q]
      refine Prod.ext ?_ rfl
      show sg k * (((z.natAbs / 3600 : Nat) : Int) * 3600 + ((z.natAbs % 3600 / 60 : Nat) : Int) * 60) = z
      unfold sg
      cases k with
      | true => rw [if_pos rfl] at hs; rw [if_pos rfl]; omega
      | false => rw [if_neg (by decide)] at hs; rw [if_neg (by decide)]; omega
    | false =>
      obtain ⟨e4, e5⟩ := e3 q
      rw [if_neg Bool.false_ne_true]
      show (sg k * (((z.natAbs / 3600 : Nat) : Int) * 3600), (mayR 58 ⟨Y, bad⟩).2) = _
      rw [e5]
      refine Prod.ext ?_ rfl
      show sg k * (((z.natAbs / 3600 : Nat) : Int) * 3600) = z
      unfold sg
      cases k with
      | true => rw [if_pos rfl] at hs; rw [if_pos rfl]; omega
      | false => rw [if_neg (by decide)] at hs; rw [if_neg (by decide)]; omega
  unfold offT
  by_cases hp : 0 < z
  · refine key true _ ?_ (by rw [if_pos rfl]; omega)
    rw [if_pos hp, List.append_assoc, List.append_assoc]
    exact may_hit 45 _ bad
  · refine key false _ ?_ (by rw [if_neg (by decide)]; omega)
    rw [if_neg hp, List.nil_append, List.append_assoc]
    exact may_miss bad (num_head (by omega) _ (dig_ne (by decide)))
theorem off_head {z : Int} (hz : -86400 ≤ z ∧ z ≤ 86400) (rest : List UInt8) {P : UInt8 → Bool} (h45 : P 45 = false) (h : ∀ k, k < 10 → P (UInt8.ofNat (48 + k)) = false) : Hd P (offT z ++ rest) := by
  unfold offT
  by_cases hp : 0 < z
  · rw [if_pos hp]; exact Hd.cons h45
  · rw [if_neg hp, List.nil_append, List.append_assoc]; exact num_head (by omega) _ h
theorem dig_not_let : ∀ k, k < 10 → letB (UInt8.ofNat (48 + k)) = false := fun k hk => by unfold letB; rw [tn hk]; exact decide_eq_false (by omega)
theorem name_head {a : List UInt8} (ha : nameB a = true) (rest : List UInt8) {P : UInt8 → Bool} (h60 : P 60 = false) (h : ∀ b, letB b = true → P b = false) : Hd P (nameT a ++ rest) := by
  unfold nameT
  by_cases q : ltN a = a.length
  · rw [if_pos q]
    cases a with
    | nil => exact absurd (name_parts ha).1 (by simp)
    | cons b r => exact Hd.cons (h b (let_head q))
  · rw [if_neg q]; exact Hd.cons h60
/-- a stamp's numbers, as they are read -/
structure Ns (x : St) (m d v h i s : Nat) : Prop where
  x : x = ⟨0, m, v, d, h, i, s, 0⟩
  m : m < 100
  d : d < 10
  v : v < 10
  h : h < 100
  i : i < 60
  s : s < 60
def stopS (b : UInt8) : Bool := dgB b || b == 58 || b == 47
theorem stopS_O {l : List UInt8} (h : Hd stopS l) : Hd stopO l := h.imp (fun b e => by unfold stopS at e; rw [Bool.or_eq_false_iff] at e; exact e.1)
theorem stopS_47 {l : List UInt8} (h : Hd stopS l) : Hd (fun b => b == 47) l := h.imp (fun b e => by unfold stopS at e; rw [Bool.or_eq_false_iff] at e; exact e.2)
theorem st_get {x : St} {m d v h i s : Nat} (hx : Ns x m d v h i s) {rest : List UInt8} (bad : Bool) (hr : Hd stopS rest) : stR ⟨stT x ++ rest, bad⟩ = (x, ⟨rest, bad⟩) := by
  obtain ⟨rfl, hm, hd, hv, hh, hi, hs⟩ := hx
  have e0 : stT ⟨0, m, v, d, h, i, s, 0⟩ ++ rest = 77 :: (numT m ++ 46 :: (numT d ++ 46 :: (numT v ++ (clT ⟨0, m, v, d, h, i, s, 0⟩ ++ rest)))) := by
    unfold stT
    show 77 :: ((numT ((m : Int)).toNat ++ 46 :: (numT ((d : Int)).toNat ++ 46 :: (numT ((v : Int)).toNat ++ _))) ++ rest) = _
    simp only [Int.toNat_natCast, List.append_assoc, List.cons_append]
  rw [e0]
  unfold stR
  dsimp only
  rw [must_hit, num_get bad hm (Hd.cons (by decide))]
  dsimp only
  rw [must_hit, num_get1 bad hd]
  dsimp only
  rw [must_hit, num_get1 bad hv]
  dsimp only
  unfold clT
  by_cases q : (h : Int) = 2 ∧ (i : Int) = 0 ∧ (s : Int) = 0
  · rw [if_pos q, List.nil_append, may_miss bad (stopS_47 hr)]
    obtain ⟨q1, q2, q3⟩ := q
    dsimp only
    rw [if_neg Bool.false_ne_true]
    have : h = 2 ∧ i = 0 ∧ s = 0 := by omega
    obtain ⟨rfl, rfl, rfl⟩ := this
    rfl
  · rw [if_neg q, List.cons_append, may_hit]
    rw [if_pos rfl]
    simp only [Int.toNat_natCast, List.append_assoc]
    by_cases q1 : (i : Int) = 0 ∧ (s : Int) = 0
    · rw [if_pos q1, if_pos q1.2, List.nil_append, List.nil_append, num_get bad hh (stop_dg (stopS_O hr))]
      dsimp only
      rw [may_miss bad (stop_58 (stopS_O hr))]
      dsimp only
      rw [if_neg Bool.false_ne_true]
      have : i = 0 ∧ s = 0 := by omega
      obtain ⟨rfl, rfl⟩ := this
      rfl
    · rw [if_neg q1, two_cons i, num_get bad hh (Hd.cons (by decide))]
      dsimp only
      rw [may_hit]
      rw [if_pos rfl]
      dsimp only
      rw [two_get bad (Nat.lt_trans hi (by decide))]
      dsimp only
      by_cases q2 : (s : Int) = 0
      · rw [if_pos q2, List.nil_append, may_miss bad (stop_58 (stopS_O hr))]
        dsimp only
        rw [if_neg Bool.false_ne_true]
        have : s = 0 := by omega
        subst this
        rfl
      · rw [if_neg q2, show twoT s ++ rest = 58 :: (UInt8.ofNat (48 + s / 10 % 10) :: UInt8.ofNat (48 + s % 10) :: rest) from rfl, may_hit]
        rw [if_pos rfl]
        dsimp only
        rw [two_get bad (Nat.lt_trans hs (by decide))]
theorem ns_of {x : St} (hB : x.Bd) (hz : x.zero = false) (hc : x.chk = 0) (he : each x = true) : ∃ m d v h i s, Ns x m d v h i s := by
  obtain ⟨h1, h2, h3⟩ := Stp.chk_of (y := x.y) (m := x.m) (v := x.v) (d := x.d) (h := x.h) (i := x.i) (s := x.s) (u := x.u) hz
  have hn : Stp.numS x.m x.v x.d x.h x.i x.s x.u = true := by
    cases q : Stp.numS x.m x.v x.d x.h x.i x.s x.u with
    | true => rfl
    | false => have := h1 q; rw [show Stp.chkS x.y x.m x.v x.d x.h x.i x.s x.u = 0 from hc] at this; simp at this
  have hd : Stp.dayS x.y x.m x.d = true := by
    cases q : Stp.dayS x.y x.m x.d with
    | true => rfl
    | false => have := h2 hn q; rw [show Stp.chkS x.y x.m x.v x.d x.h x.i x.s x.u = 0 from hc] at this; simp at this
  unfold Stp.numS at hn
  unfold Stp.dayS at hd
  rw [decide_eq_true_eq] at hn hd
  unfold each at he
  rw [Bool.and_eq_true, beq_iff_eq, beq_iff_eq] at he
  obtain ⟨b1, b2, b3, b4, b5, b6, b7, b8⟩ := hB
  refine ⟨x.m.toNat, x.d.toNat, x.v.toNat, x.h.toNat, x.i.toNat, x.s.toNat, ?_, by omega, by omega, by omega, by omega, by omega, by omega⟩
  obtain ⟨y, m, v, d, h, i, s, u⟩ := x
  dsimp only at *
  congr 1 <;> omega
theorem nil_of {x : St} (h : x.zero = true) : x = St.nil := by
  obtain ⟨y, m, v, d, h0, i, s, u⟩ := x
  have h' : Stp.zeroS y m v d h0 i s u = true := h
  unfold Stp.zeroS at h'
  simp only [Bool.and_eq_true, beq_iff_eq, decide_eq_true_eq] at h'
  unfold St.nil
  congr 1 <;> omega
/-- the record that is read -/
def nrm (r : Rc) : Rc := if r.p.zero = true then plR r.std else mkR r.std r.dst r.p r.q
theorem foE_parts {r : Rc} {a b : List UInt8} (h : foE r a b = 0) : r.ok = true ∧ each r.p = true ∧ each r.q = true ∧ nameB a = true ∧ (r.p.zero = false → nameB b = true) ∧ (r.p.zero = true → b = []) := by
  unfold foE at h
  cases h1 : r.ok with
  | false => rw [h1, if_pos rfl] at h; cases h
  | true =>
    rw [h1, if_neg (by decide)] at h
    cases h2 : (each r.p && each r.q) with
    | false => rw [h2, if_pos rfl] at h; cases h
    | true =>
      rw [h2, if_neg (by decide)] at h
      rw [Bool.and_eq_true] at h2
      by_cases h3 : nameB a = false ∨ (r.p.zero = false ∧ nameB b = false) ∨ (r.p.zero = true ∧ b ≠ [])
      · rw [if_pos h3] at h; cases h
      · have q1 : ¬ nameB a = false := fun e => h3 (.inl e)
        have q2 : ¬ (r.p.zero = false ∧ nameB b = false) := fun e => h3 (.inr (.inl e))
        have q3 : ¬ (r.p.zero = true ∧ b ≠ []) := fun e => h3 (.inr (.inr e))
        refine ⟨rfl, h2.1, h2.2, by simpa using q1, fun e => ?_, fun e => ?_⟩
        · cases q : nameB b with
          | true => rfl
          | false => exact absurd ⟨e, q⟩ q2
        · exact Classical.byContradiction fun k => q3 ⟨e, k⟩
theorem foE_of {r : Rc} {a b : List UInt8} (h1 : r.ok = true) (h2 : each r.p = true) (h3 : each r.q = true) (h4 : nameB a = true) (h5 : r.p.zero = false → nameB b = true) (h6 : r.p.zero = true → b = []) : foE r a b = 0 := by
  unfold foE
  rw [if_neg (by rw [h1]; decide), if_neg (by rw [h2, h3]; decide), if_neg]
  rintro (e | ⟨e, k⟩ | ⟨e, k⟩)
  · rw [h4] at e; cases e
  · rw [h5 e] at k; cases k
  · exact k (h6 e)
theorem mod60 (b c : Int) : offS b c % 60 = 0 := by unfold offS; omega
theorem okO_of (b c : Int) (h : -86400 ≤ offS b c ∧ offS b c ≤ 86400) : okO (offS b c) = true := by
  unfold okO wholeM near
  rw [decide_eq_true (mod60 b c), decide_eq_true h]; rfl
theorem offs_mk (b c d : Int) : offS (-(offS b c / 60)) 0 = offS b c ∧ offS (-(offS b c / 60)) ((offS b c - offS b d) / 60) = offS b d := by unfold offS; omega
theorem plR_std (r : Rc) (h : -86400 ≤ r.std ∧ r.std ≤ 86400) : plR r.std = ⟨-(r.std / 60), 0, 0, St.nil, St.nil⟩ := by unfold plR; rw [if_pos (okO_of _ _ h)]
theorem mk_ok {r : Rc} (h : r.ok = true) : mkOk r.std r.dst r.p r.q = true := by
  have hn := Rc.near h
  have h' : rcOk r.b r.c r.d r.p r.q = true := h
  unfold mkOk
  rw [okO_of _ _ hn.1, okO_of _ _ hn.2]
  unfold rcOk at h' ⊢
  have e1 := (offs_mk r.b r.c r.d).1; have e2 := (offs_mk r.b r.c r.d).2
  rw [show offS (-(r.std / 60)) 0 = offS r.b r.c from e1, show offS (-(r.std / 60)) ((r.std - r.dst) / 60) = offS r.b r.d from e2]
  rw [h']; rfl
theorem mkR_std {r : Rc} (h : r.ok = true) : mkR r.std r.dst r.p r.q = ⟨-(r.std / 60), 0, (r.std - r.dst) / 60, r.p, r.q⟩ := by unfold mkR; rw [if_pos (mk_ok h)]
theorem pl_ok {r : Rc} (h : r.ok = true) : (⟨-(r.std / 60), 0, 0, St.nil, St.nil⟩ : Rc).ok = true := by
  have hn := Rc.near h
  show rcOk (-(r.std / 60)) 0 0 St.nil St.nil = true
  unfold rcOk
  rw [show offS (-(r.std / 60)) 0 = offS r.b r.c from (offs_mk r.b r.c r.d).1]
  have : near (offS r.b r.c) = true := by unfold near; exact decide_eq_true hn.1
  simp only [List.all_cons, List.all_nil, this]
  decide
structure NrmOk (r x : Rc) : Prop where
  p : x.p = r.p
  q : x.q = r.q
  c : x.c = 0
  s : x.std = r.std
  d : r.p.zero = false → x.dst = r.dst
  ok : x.ok = true
theorem zero_nil : St.nil.zero = true := by decide
theorem q_zero {r : Rc} (h : r.ok = true) : r.p.zero = r.q.zero := (ok_parts h).1
theorem nrm_ok {r : Rc} (h : r.ok = true) : NrmOk r (nrm r) := by
  have hn := Rc.near h
  unfold nrm
  by_cases hz : r.p.zero = true
  · rw [if_pos hz, plR_std r hn.1]
    refine ⟨(nil_of hz).symm, (nil_of ((q_zero h) ▸ hz)).symm, rfl, (offs_mk r.b r.c r.d).1, fun e => ?_, pl_ok h⟩
    rw [hz] at e; cases e
  · rw [if_neg hz, mkR_std h]
    refine ⟨rfl, rfl, rfl, (offs_mk r.b r.c r.d).1, fun e => (offs_mk r.b r.c r.d).2, ?_⟩
    have := mk_ok h
    unfold mkOk at this; rw [Bool.and_eq_true] at this; exact this.2
theorem NrmOk.foE {r x : Rc} (h : NrmOk r x) {a b : List UInt8} (e : foE r a b = 0) : foE x a b = 0 := by
  obtain ⟨h1, h2, h3, h4, h5, h6⟩ := foE_parts e
  exact foE_of h.ok (by rw [h.p]; exact h2) (by rw [h.q]; exact h3) h4 (by rw [h.p]; exact h5) (by rw [h.p]; exact h6)
theorem NrmOk.foT {r x : Rc} (h : NrmOk r x) (a b : List UInt8) : foT x a b = foT r a b := by
  unfold Fo.foT
  rw [h.s, h.p, h.q]
  cases hz : r.p.zero with
  | true => rfl
  | false => rw [h.d hz]
theorem tail_stop (x y : List UInt8) : Hd stopO (44 :: x) := Hd.cons (by decide)
theorem par_back {r : Rc} {a b : List UInt8} (hB : r.Bd) (he : foE r a b = 0) : parW (foT r a b) = ⟨nrm r, 0, a, b, ⟨[], false⟩⟩ := by
  obtain ⟨h1, h2, h3, h4, h5, h6⟩ := foE_parts he
  have hn := Rc.near h1
  obtain ⟨_, c1, c2, _⟩ := ok_parts h1
  obtain ⟨_, _, _, hBp, hBq⟩ := hB
  unfold parW foT
  dsimp only
  rw [name_get false h4 (off_head hn.1 _ (by decide) dig_not_let)]
  dsimp only
  cases hz : r.p.zero with
  | true =>
    rw [if_pos rfl, off_get false hn.1 (mod60 _ _) Hd.nil]
    dsimp only
    rw [if_pos rfl, h6 hz]
    unfold nrm
    rw [if_pos hz, show plE r.std = 0 by unfold plE; rw [if_pos (okO_of _ _ hn.1)]]
  | false =>
    have hq : r.q.zero = false := by rw [← q_zero h1]; exact hz
    obtain ⟨m, d, v, h, i, s, np⟩ := ns_of hBp hz c1 h2
    obtain ⟨m', d', v', h', i', s', nq⟩ := ns_of hBq hq c2 h3
    have hb := h5 hz
    rw [if_neg Bool.false_ne_true]
    rw [off_get false hn.1 (mod60 _ _) (name_head hb _ (by decide) (fun c hc => by
      unfold stopO
      rw [Bool.or_eq_false_iff, beq_eq_false_iff_ne]
      refine ⟨?_, by rintro rfl; revert hc; decide⟩
      unfold letB at hc; unfold dgB
      rw [decide_eq_true_eq] at hc
      exact decide_eq_false (by omega)))]
    dsimp only
    have hne : nameT b ++ ((if r.dst = r.std + 3600 then [] else offT r.dst) ++ 44 :: (stT r.q ++ 44 :: stT r.p)) ≠ [] := by
      unfold nameT
      split
      · cases b with
        | nil => exact absurd (name_parts hb).1 (by simp)
        | cons c t => simp
      · simp
    rw [if_neg hne]
    have e44 : Hd letB ((if r.dst = r.std + 3600 then [] else offT r.dst) ++ 44 :: (stT r.q ++ 44 :: stT r.p)) := by
      split
      · exact Hd.cons (by decide)
      · exact off_head hn.2 _ (by decide) dig_not_let
    rw [name_get false hb e44]
    dsimp only
    have hd : dstR r.std ⟨(if r.dst = r.std + 3600 then [] else offT r.dst) ++ 44 :: (stT r.q ++ 44 :: stT r.p), false⟩ = (r.dst, ⟨stT r.q ++ 44 :: stT r.p, false⟩) := by
      unfold dstR
      by_cases q : r.dst = r.std + 3600
      · rw [if_pos q, List.nil_append, may_hit, if_pos rfl, q]
      · rw [if_neg q, may_miss false (off_head hn.2 _ (by decide) (dig_ne (by decide)))]
        dsimp only
        rw [if_neg Bool.false_ne_true]
        rw [off_get false hn.2 (mod60 _ _) (Hd.cons (by decide))]
        dsimp only
        rw [must_hit]
    rw [hd]
    dsimp only
    rw [st_get nq false (Hd.cons (by decide))]
    dsimp only
    rw [must_hit, show stT r.p = stT r.p ++ [] from (List.append_nil _).symm, st_get np false Hd.nil]
    dsimp only
    have hk := mk_ok h1
    have hE : mkE r.std r.dst r.p r.q = 0 := by
      unfold mkOk at hk; rw [Bool.and_eq_true] at hk
      unfold mkE; rw [if_pos hk.1, if_pos hk.2]
    rw [hE]
    unfold nrm
    rw [if_neg (by rw [hz]; decide)]
theorem par_ok {r : Rc} {a b : List UInt8} (hB : r.Bd) (he : foE r a b = 0) : (parW (foT r a b)).ok (foT r a b) := by
  have h := nrm_ok (foE_parts he).1
  rw [par_back hB he]
  exact ⟨rfl, rfl, rfl, h.foE he, h.foT a b⟩
theorem parV_back {r : Rc} {a b : List UInt8} (hB : r.Bd) (he : foE r a b = 0) : parV (foT r a b) = .tuple #[(nrm r).V, .string (B a), .string (B b), .int .i64 0] := by
  unfold parV
  rw [if_pos (par_ok hB he), par_back hB he]
theorem nrm_bd {r : Rc} (hB : r.Bd) : (nrm r).Bd := by
  unfold nrm; split
  · exact plR_bd _
  · exact (by obtain ⟨_, _, _, hBp, hBq⟩ := hB; exact mkR_bd _ _ _ _ hBp hBq)
theorem nil_never (Y off : Int) : secV St.nil Y off = 4611686018427387904 := by
  unfold secV
  rw [if_neg]
  have : leS St.nil Y ≠ 0 := by
    unfold leS St.nil Stp.dtE Stp.noneS
    rw [show Stp.okS 0 0 0 0 0 0 0 0 = true by decide, show Stp.zeroS 0 0 0 0 0 0 0 0 = true by decide]
    simp
    omega
  exact this
/-- what is read sets clocks as what was written did -/
theorem NrmOk.tr {r x : Rc} (h : NrmOk r x) (hr : r.ok = true) (Y : Int) : trE x.b x.c x.d x.p x.q Y = trE r.b r.c r.d r.p r.q Y := by
  have h1 : rcOk x.b x.c x.d x.p x.q = true := h.ok
  have h2 : rcOk r.b r.c r.d r.p r.q = true := hr
  unfold trE; rw [h1, h2]
theorem NrmOk.turns {r x : Rc} (h : NrmOk r x) (hr : r.ok = true) (Y : Int) : x.tr Y = r.tr Y ∧ x.ts Y = r.ts Y := by
  have e := h.tr hr Y
  unfold Rc.tr Rc.ts trA trB
  rw [e]
  rw [h.p, h.q, show offS x.b x.c = offS r.b r.c from h.s]
  refine ⟨rfl, ?_⟩
  cases hz : r.p.zero with
  | true => rw [nil_of hz, nil_never, nil_never]
  | false => rw [show offS x.b x.d = offS r.b r.d from h.d hz]
theorem NrmOk.offs {r x : Rc} (h : NrmOk r x) (hr : r.ok = true) (Y t : Int) : x.off Y t = r.off Y t ∧ x.sum Y t = r.sum Y t := by
  have e := h.turns hr Y
  have es : x.sum Y t = r.sum Y t := by
    show sumB (x.tr Y) (x.ts Y) t = sumB (r.tr Y) (r.ts Y) t
    rw [e.1, e.2]
  refine ⟨?_, es⟩
  unfold Rc.off
  rw [es, h.s]
  cases hz : r.p.zero with
  | true =>
    have hq : r.q.zero = true := by rw [← q_zero hr]; exact hz
    have : r.sum Y t = false := by
      have e1 : r.tr Y = if trE r.b r.c r.d r.p r.q Y = 0 then 4611686018427387904 else 0 := by
        show (if _ then secV r.q Y _ else 0) = _
        rw [nil_of hq, nil_never]
      have e2 : r.ts Y = if trE r.b r.c r.d r.p r.q Y = 0 then 4611686018427387904 else 0 := by
        show (if _ then secV r.p Y _ else 0) = _
        rw [nil_of hz, nil_never]
      show sumB (r.tr Y) (r.ts Y) t = false
      rw [e1, e2]
      unfold sumB
      simp
    rw [this]; rfl
  | false => rw [h.d hz]
theorem NrmOk.spL {r x : Rc} (h : NrmOk r x) (hr : r.ok = true) (Y : Int) : spL x Y = spL r Y := by
  have e := h.turns hr Y
  have eo := fun t => (h.offs hr Y t).1
  have es := fun t => (h.offs hr Y t).2
  unfold Tb.spL sp2 sp1 sp0 spStep Rc.sp
  simp only [e.1, e.2, eo, es]
end Go.Proofs.YtgdgkgeoigljcaaDoor.Fo
