/-
  AREAS, in plain Lean: wherever they begin, whichever way they go round; cut in two; three corners.
-/
import Derived.Test.YtoiccljmdplfgaaAr4
namespace Go.Proofs.Ytoiccljmdplfgaa.Ar
open Go.ChangeShapes Go.WideShapes Go.ChangeAt Go.RowKit Go.Shelf
open Go.Proofs.Ytoiccljmdplfgaa
open Go.Proofs.Ytoiccljmdplfgaa.Wd
open Go.Proofs.Ytoiccljmdplfgaa.Pl
open Go.Proofs.Ytoiccljmdplfgaa.Nv
set_option linter.unusedVariables false
/-- the m-th side -/
def sd (l : List P2) (m : Nat) : P2 × P2 := (pt_ l (m % l.length), pt_ l ((m + 1) % l.length))
theorem sides_sd (l : List P2) : sidesL l = (List.range l.length).map (sd l) := by
  unfold sidesL sidesK
  refine List.map_congr_left fun j hj => ?_
  have hj' := List.mem_range.1 hj
  unfold sd nx
  rw [Nat.mod_eq_of_lt hj']
  split
  · rw [Nat.mod_eq_of_lt (by assumption)]
  · rw [show j + 1 = l.length by omega, Nat.mod_self]
theorem sd_at {l : List P2} {m : Nat} (h : m < l.length) : (sidesL l)[m]? = some (sd l m) := by
  rw [sides_sd, List.getElem?_map, List.getElem?_range h]; rfl
theorem sidesL_len (l : List P2) : (sidesL l).length = l.length := by rw [sides_sd]; simp
theorem pt_app {l m : List P2} {k : Nat} : pt_ (l ++ m) k = if k < l.length then pt_ l k else pt_ m (k - l.length) := by
  show (l ++ m).getD k _ = _
  split
  · rename_i h
    show _ = l.getD k _
    rw [List.getD_eq_getElem?_getD, List.getElem?_append_left h, List.getD_eq_getElem?_getD]
  · rename_i h
    show _ = m.getD _ _
    rw [List.getD_eq_getElem?_getD, List.getElem?_append_right (by omega), List.getD_eq_getElem?_getD]
theorem pt_drop (l : List P2) (i k : Nat) : pt_ (l.drop i) k = pt_ l (i + k) := by
  show (l.drop i).getD k _ = l.getD _ _
  rw [List.getD_eq_getElem?_getD, List.getElem?_drop, List.getD_eq_getElem?_getD]
theorem pt_take {l : List P2} {i k : Nat} (h : k < i) : pt_ (l.take i) k = pt_ l k := by
  show (l.take i).getD k _ = l.getD _ _
  rw [List.getD_eq_getElem?_getD, List.getElem?_take_of_lt h, List.getD_eq_getElem?_getD]
theorem pt_rev {l : List P2} {k : Nat} (h : k < l.length) : pt_ l.reverse k = pt_ l (l.length - 1 - k) := by
  show l.reverse.getD k _ = l.getD _ _
  rw [List.getD_eq_getElem?_getD, List.getElem?_reverse h, List.getD_eq_getElem?_getD]
theorem ext_sd {l m : List (P2 × P2)} {n : Nat} (hl : l.length = n) (hm : m.length = n) (h : ∀ k, k < n → l[k]? = m[k]?) : l = m := by
  refine List.ext_getElem? fun k => ?_
  by_cases hk : k < n
  · exact h k hk
  · rw [List.getElem?_eq_none (by omega), List.getElem?_eq_none (by omega)]
/-- an area that begins with another corner -/
theorem pt_rot {l : List P2} {i k : Nat} (hi : i < l.length) (hk : k < l.length) : pt_ (l.drop i ++ l.take i) k = pt_ l ((i + k) % l.length) := by
  rw [pt_app, List.length_drop]
  split
  · rw [pt_drop, Nat.mod_eq_of_lt (by omega)]
  · rw [pt_take (by omega)]
    congr 1
    rw [show i + k = k - (l.length - i) + l.length by omega, Nat.add_mod_right, Nat.mod_eq_of_lt (by omega)]
theorem rot_len {l : List P2} {i : Nat} (hi : i < l.length) : (l.drop i ++ l.take i).length = l.length := by simp; omega
theorem rot_sides {l : List P2} {i : Nat} (hi : i < l.length) : (sidesL (l.drop i ++ l.take i)).Perm (sidesL l) := by
  have e : sidesL (l.drop i ++ l.take i) = (sidesL l).drop i ++ (sidesL l).take i := by
    refine ext_sd (n := l.length) (by rw [sidesL_len, rot_len hi]) (by rw [List.length_append, List.length_drop, List.length_take, sidesL_len]; omega) fun k hk => ?_
    rw [sd_at (by rw [rot_len hi]; exact hk)]
    have hr : sd (l.drop i ++ l.take i) k = sd l ((i + k) % l.length) := by
      unfold sd
      rw [rot_len hi, Nat.mod_eq_of_lt hk, pt_rot hi hk, pt_rot hi (Nat.mod_lt _ (by omega)), Nat.mod_mod, Nat.add_mod_mod]
      congr 2
      rw [Nat.mod_add_mod, Nat.add_assoc]
    rw [hr]
    by_cases hk2 : k < l.length - i
    · rw [List.getElem?_append_left (by rw [List.length_drop, sidesL_len]; exact hk2), List.getElem?_drop, sd_at (by omega), Nat.mod_eq_of_lt (by omega)]
    · rw [List.getElem?_append_right (by rw [List.length_drop, sidesL_len]; omega), List.length_drop, sidesL_len, List.getElem?_take_of_lt (by omega), sd_at (by omega)]
      congr 2
      rw [show i + k = k - (l.length - i) + l.length by omega, Nat.add_mod_right, Nat.mod_eq_of_lt (by omega)]
  rw [e]
  exact (List.perm_append_comm).trans (by rw [List.take_append_drop])
abbrev sw (x : P2 × P2) : P2 × P2 := (x.2, x.1)
/-- an area that goes the other way round -/
theorem rev_sides {l : List P2} (hn : 1 ≤ l.length) : (sidesL l.reverse).Perm ((sidesL l).map sw) := by
  have e : sidesL l.reverse = (((sidesL l).map sw).take (l.length - 1)).reverse ++ ((sidesL l).map sw).drop (l.length - 1) := by
    refine ext_sd (n := l.length) (by rw [sidesL_len, List.length_reverse]) (by simp only [List.length_append, List.length_reverse, List.length_drop, List.length_take, List.length_map, sidesL_len]; omega) fun k hk => ?_
    rw [sd_at (by rw [List.length_reverse]; exact hk)]
    by_cases hk2 : k < l.length - 1
    · rw [List.getElem?_append_left (by simp only [List.length_reverse, List.length_take, List.length_map, sidesL_len]; omega), List.getElem?_reverse (by simp only [List.length_take, List.length_map, sidesL_len]; omega)]
      rw [List.length_take, List.length_map, sidesL_len, List.getElem?_take_of_lt (by omega), List.getElem?_map, sd_at (by omega)]
      show some (sd _ _) = some (sw _)
      congr 1
      unfold sd sw
      rw [List.length_reverse, Nat.mod_eq_of_lt hk, Nat.mod_eq_of_lt (show k + 1 < l.length by omega), pt_rev hk, pt_rev (by omega)]
      rw [show min (l.length - 1) l.length - 1 - k + 1 = l.length - 1 - k by omega, show min (l.length - 1) l.length - 1 - k = l.length - 1 - (k + 1) by omega, Nat.mod_eq_of_lt (show l.length - 1 - k < l.length by omega), Nat.mod_eq_of_lt (show l.length - 1 - (k + 1) < l.length by omega)]
    · obtain rfl : k = l.length - 1 := by omega
      rw [List.getElem?_append_right (by simp only [List.length_reverse, List.length_take, List.length_map, sidesL_len]; omega)]
      simp only [List.length_reverse, List.length_take, List.length_map, sidesL_len]
      rw [show l.length - 1 - min (l.length - 1) l.length = 0 by omega, List.getElem?_drop, List.getElem?_map, Nat.add_zero, sd_at (by omega)]
      show some (sd _ _) = some (sw _)
      congr 1
      unfold sd sw
      rw [List.length_reverse, Nat.mod_eq_of_lt hk, show l.length - 1 + 1 = l.length by omega, Nat.mod_self, pt_rev hk, pt_rev (by omega), show l.length - 1 - (l.length - 1) = 0 by omega, Nat.sub_zero]
  rw [e]
  exact ((List.reverse_perm _).append_right _).trans (by rw [List.take_append_drop])
theorem any_perm {α : Type} {f : α → Bool} {l m : List α} (h : l.Perm m) : l.any f = m.any f := by
  rw [Bool.eq_iff_iff, List.any_eq_true, List.any_eq_true]
  exact ⟨fun ⟨x, hx, e⟩ => ⟨x, h.mem_iff.1 hx, e⟩, fun ⟨x, hx, e⟩ => ⟨x, h.mem_iff.2 hx, e⟩⟩
/-- an odd number of them -/
def oddB {α : Type} (f : α → Bool) (l : List α) : Bool := decide ((l.filter f).length % 2 = 1)
theorem odd_perm {α : Type} {f : α → Bool} {l m : List α} (h : l.Perm m) : oddB f l = oddB f m := by unfold oddB; rw [(h.filter f).length_eq]
theorem odd_app {α : Type} (f : α → Bool) (l m : List α) : oddB f (l ++ m) = (oddB f l != oddB f m) := by
  unfold oddB
  rw [List.filter_append, List.length_append]
  generalize (l.filter f).length = a
  generalize (m.filter f).length = b
  rcases Nat.mod_two_eq_zero_or_one a with h1 | h1 <;> rcases Nat.mod_two_eq_zero_or_one b with h2 | h2 <;> simp [h1, h2, Nat.add_mod]
theorem odd_map {α β : Type} (f : β → Bool) (g : α → β) (l : List α) : oddB f (l.map g) = oddB (fun x => f (g x)) l := by
  unfold oddB; rw [List.filter_map, List.length_map]; rfl
theorem odd_fold0 (p : P2) (s : List (P2 × P2)) (o : Bool) : s.foldl (fun o x => if crB x.1 x.2 p = true then !o else o) o = (o != oddB (fun x => crB x.1 x.2 p) s) := by
  induction s generalizing o with
  | nil => cases o <;> rfl
  | cons x s ih =>
    rw [List.foldl_cons, ih, show x :: s = [x] ++ s from rfl, odd_app]
    cases h : crB x.1 x.2 p <;> simp [oddB, h] <;> cases o <;> simp
theorem odd_fold (p : P2) (s : List (P2 × P2)) : odB p s = oddB (fun x => crB x.1 x.2 p) s := by
  unfold odB; rw [odd_fold0]; simp
theorem w64 (n : Int) (h : -9223372036854775808 ≤ n ∧ n ≤ 9223372036854775807) : wrap64 n = n := by unfold wrap64; omega
/-- sums -/
def sumB (f : (P2 × P2) → Int) (l : List (P2 × P2)) : Int := l.foldr (fun x a => f x + a) 0
theorem sum_app (f : (P2 × P2) → Int) (l m : List (P2 × P2)) : sumB f (l ++ m) = sumB f l + sumB f m := by
  induction l with
  | nil => show sumB f m = 0 + sumB f m; omega
  | cons x l ih => show f x + sumB f (l ++ m) = f x + sumB f l + sumB f m; rw [ih]; omega
theorem sum_perm {f : (P2 × P2) → Int} {l m : List (P2 × P2)} (h : l.Perm m) : sumB f l = sumB f m := by
  induction h with
  | nil => rfl
  | @cons x l1 l2 _ ih => show f x + sumB f l1 = f x + sumB f l2; rw [ih]
  | swap x y l => show f y + (f x + sumB f l) = f x + (f y + sumB f l); omega
  | trans _ _ h1 h2 => rw [h1, h2]
theorem sum_map (f : (P2 × P2) → Int) (g : (P2 × P2) → (P2 × P2)) (l : List (P2 × P2)) : sumB f (l.map g) = sumB (fun x => f (g x)) l := by
  induction l with
  | nil => rfl
  | cons x l ih => show f (g x) + sumB f (l.map g) = f (g x) + sumB (fun x => f (g x)) l; rw [ih]
theorem sum_neg {f g : (P2 × P2) → Int} {l : List (P2 × P2)} (h : ∀ x ∈ l, f x = -g x) : sumB f l = -sumB g l := by
  induction l with
  | nil => rfl
  | cons x l ih =>
    show f x + sumB f l = -(g x + sumB g l)
    rw [ih (fun y hy => h y (List.mem_cons_of_mem _ hy)), h x List.mem_cons_self]; omega
theorem sum_bd {f : (P2 × P2) → Int} {l : List (P2 × P2)} {C : Int} (h : ∀ x ∈ l, -C ≤ f x ∧ f x ≤ C) : -(C * l.length) ≤ sumB f l ∧ sumB f l ≤ C * l.length := by
  induction l with
  | nil => show -(C * 0) ≤ 0 ∧ 0 ≤ C * 0; omega
  | cons x l ih =>
    have h1 := ih (fun y hy => h y (List.mem_cons_of_mem _ hy))
    have h2 := h x List.mem_cons_self
    have e : C * ((x :: l).length : Int) = C * (l.length : Int) + C := by rw [List.length_cons]; push_cast; rw [Int.mul_add, Int.mul_one]
    rw [e]
    show _ ≤ f x + sumB f l ∧ f x + sumB f l ≤ _
    omega
def csP (x : P2 × P2) : Int := x.1.lo * x.2.la - x.1.la * x.2.lo
theorem mul_bd {x y : Int} (h1 : -324000 ≤ x ∧ x ≤ 324000) (h2 : -648000 ≤ y ∧ y ≤ 648000) : -209952000000 ≤ x * y ∧ x * y ≤ 209952000000 := by
  have hx : x.natAbs ≤ 324000 := by omega
  have hy : y.natAbs ≤ 648000 := by omega
  have := Nat.mul_le_mul hx hy
  rw [← Int.natAbs_mul] at this
  omega
theorem cs_ok {x : P2 × P2} (h1 : x.1.ok = true) (h2 : x.2.ok = true) : csS x = csP x ∧ -419904000000 ≤ csP x ∧ csP x ≤ 419904000000 := by
  have a := P2.ok_iff.1 h1; have b := P2.ok_iff.1 h2
  have m1 := mul_bd (x := x.2.la) (y := x.1.lo) (by omega) (by omega)
  have m2 := mul_bd (x := x.1.la) (y := x.2.lo) (by omega) (by omega)
  rw [Int.mul_comm] at m1
  unfold csS csP
  rw [w64 (x.1.lo * x.2.la) (by omega), w64 (x.1.la * x.2.lo) (by omega), w64 _ (by omega)]
  omega
theorem pt_ok {l : List P2} (h : okP l = true) {k : Nat} (hk : k < l.length) : (pt_ l k).ok = true := by
  unfold okP at h
  have := List.all_eq_true.1 h l[k] (List.getElem_mem hk)
  rwa [pt_eq hk] at this
theorem sd_ok {l : List P2} (h : okP l = true) (hn : 1 ≤ l.length) {x : P2 × P2} (hx : x ∈ sidesL l) : x.1.ok = true ∧ x.2.ok = true := by
  rw [sides_sd] at hx
  obtain ⟨m, hm, rfl⟩ := List.mem_map.1 hx
  exact ⟨pt_ok h (Nat.mod_lt _ (by omega)), pt_ok h (Nat.mod_lt _ (by omega))⟩
theorem sz_fold {s : List (P2 × P2)} (h : ∀ x ∈ s, x.1.ok = true ∧ x.2.ok = true) : ∀ (a : Int), -(419904000000 * 2000 : Int) + 419904000000 * s.length ≤ a → a ≤ 419904000000 * 2000 - 419904000000 * s.length → s.foldl (fun a x => wrap64 (a + csS x)) a = a + sumB csP s := by
  induction s with
  | nil => intro a _ _; show a = a + 0; omega
  | cons x s ih =>
    intro a h1 h2
    obtain ⟨e, b1, b2⟩ := cs_ok (h x List.mem_cons_self).1 (h x List.mem_cons_self).2
    have el : (419904000000 * ((x :: s).length : Int)) = 419904000000 * (s.length : Int) + 419904000000 := by rw [List.length_cons]; push_cast; omega
    rw [el] at h1 h2
    rw [List.foldl_cons, e, w64 _ (by omega), ih (fun y hy => h y (List.mem_cons_of_mem _ hy)) _ (by omega) (by omega)]
    show _ = a + (csP x + sumB csP s)
    omega
theorem sz_ok {z : ByteArray} {l : List P2} (h : arOk z l = true) : szV z l = sumB csP (sidesL l) ∧ -(419904000000 * 1024 : Int) ≤ sumB csP (sidesL l) ∧ sumB csP (sidesL l) ≤ 419904000000 * 1024 := by
  obtain ⟨h1, h2, h3⟩ := ar_iff.1 h
  have hs := fun x hx => sd_ok h3 (by omega) (x := x) hx
  have hb := sum_bd (f := csP) (l := sidesL l) (C := 419904000000) (fun x hx => (cs_ok (hs x hx).1 (hs x hx).2).2)
  rw [sidesL_len] at hb
  refine ⟨?_, by omega, by omega⟩
  unfold szV
  rw [if_pos h]
  have := sz_fold (s := sidesL l) hs 0 (by rw [sidesL_len]; omega) (by rw [sidesL_len]; omega)
  unfold szK
  rw [this]; omega
theorem cr_sw (a b p : P2) : crB b a p = crB a b p := by
  unfold crB
  by_cases h : b.la < a.la
  · rw [if_pos h, if_neg (by omega)]
  · rw [if_neg h]
    by_cases h2 : a.la < b.la
    · rw [if_pos h2]
    · rw [if_neg h2]
      have e : a.la = b.la := by omega
      rw [e]
      by_cases g : b.la ≤ p.la
      · rw [decide_eq_false (show ¬ p.la < b.la by omega)]; simp
      · rw [decide_eq_false g]; rfl
theorem okP_perm {l m : List P2} (h : l.Perm m) : okP l = okP m := by
  unfold okP
  rw [Bool.eq_iff_iff, List.all_eq_true, List.all_eq_true]
  exact ⟨fun g x hx => g x (h.mem_iff.2 hx), fun g x hx => g x (h.mem_iff.1 hx)⟩
theorem ar_perm {z : ByteArray} {l m : List P2} (h : l.Perm m) : arOk z l = arOk z m := by unfold arOk; rw [okP_perm h, h.length_eq]
theorem rot_perm (l : List P2) (i : Nat) : (l.drop i ++ l.take i).Perm l := (List.perm_append_comm).trans (by rw [List.take_append_drop])
/-- WHEREVER IT BEGINS -/
theorem same_rot {z : ByteArray} {l : List P2} {i : Nat} (h : arOk z l = true) (hi : i < l.length) (p : P2) :
    arOk z (l.drop i ++ l.take i) = true ∧ edB (l.drop i ++ l.take i) p = edB l p ∧ inB (l.drop i ++ l.take i) p = inB l p ∧ szV z (l.drop i ++ l.take i) = szV z l := by
  have hp := rot_sides hi
  have h2 : arOk z (l.drop i ++ l.take i) = true := by rw [ar_perm (rot_perm l i)]; exact h
  have he : edB (l.drop i ++ l.take i) p = edB l p := any_perm hp
  refine ⟨h2, he, ?_, ?_⟩
  · unfold inB; rw [he, odd_fold, odd_fold, odd_perm hp]
  · rw [(sz_ok h2).1, (sz_ok h).1, sum_perm hp]
/-- WHICHEVER WAY ROUND -/
theorem same_rev {z : ByteArray} {l : List P2} (h : arOk z l = true) (p : P2) :
    arOk z l.reverse = true ∧ edB l.reverse p = edB l p ∧ inB l.reverse p = inB l p ∧ szV z l.reverse = -szV z l := by
  have hn : 1 ≤ l.length := by have := (ar_iff.1 h).2.1; omega
  have hp := rev_sides hn
  have h2 : arOk z l.reverse = true := by rw [ar_perm (List.reverse_perm l)]; exact h
  have he : edB l.reverse p = edB l p := by
    unfold edB
    rw [any_perm hp, List.any_map]
    congr 1
    funext x
    exact bet_back x.1 p x.2
  refine ⟨h2, he, ?_, ?_⟩
  · unfold inB
    rw [he, odd_fold, odd_fold, odd_perm hp, odd_map]
    congr 2
    funext x
    exact cr_sw x.1 x.2 p
  · rw [(sz_ok h2).1, (sz_ok h).1, sum_perm hp, sum_map]
    exact sum_neg fun x _ => by show x.2.lo * x.1.la - x.2.la * x.1.lo = -(x.1.lo * x.2.la - x.1.la * x.2.lo); rw [Int.mul_comm x.2.lo, Int.mul_comm x.2.la]; omega
/-- its corners are on the edge -/
theorem corner_on {z : ByteArray} {l : List P2} {i : Nat} (h : arOk z l = true) (hi : i < l.length) : rtB z l (pt_ l i) = true ∧ edB l (pt_ l i) = true ∧ inB l (pt_ l i) = true := by
  have h3 := (ar_iff.1 h).2.2
  have he : edB l (pt_ l i) = true := by
    unfold edB
    refine List.any_eq_true.2 ⟨sd l i, List.mem_of_getElem? (sd_at hi), ?_⟩
    unfold sd
    rw [Nat.mod_eq_of_lt hi]
    exact bet_self (pt_ok h3 hi) (pt_ok h3 (Nat.mod_lt _ (by omega)))
  exact ⟨by unfold rtB; rw [h, pt_ok h3 hi]; rfl, he, by unfold inB; rw [he]; rfl⟩
/-- CUT IN TWO: both parts -/
abbrev cutB (l : List P2) (i k : Nat) : List P2 := (l.drop i).take (k - i + 1)
abbrev cutC (l : List P2) (i k : Nat) : List P2 := l.drop k ++ l.take (i + 1)
theorem cutB_len {l : List P2} {i k : Nat} (h1 : i ≤ k) (h2 : k < l.length) : (cutB l i k).length = k - i + 1 := by simp; omega
theorem cutC_len {l : List P2} {i k : Nat} (h1 : i ≤ k) (h2 : k < l.length) : (cutC l i k).length = l.length - k + (i + 1) := by simp; omega
theorem cutB_pt {l : List P2} {i k j : Nat} (h : j ≤ k - i) : pt_ (cutB l i k) j = pt_ l (i + j) := by rw [pt_take (by omega), pt_drop]
theorem cutC_pt {l : List P2} {i k j : Nat} (h1 : i ≤ k) (h2 : k < l.length) (hj : j < l.length - k + (i + 1)) : pt_ (cutC l i k) j = pt_ l ((k + j) % l.length) := by
  rw [pt_app, List.length_drop]
  split
  · rw [pt_drop, Nat.mod_eq_of_lt (by omega)]
  · rw [pt_take (by omega)]
    congr 1
    rw [show k + j = j - (l.length - k) + l.length by omega, Nat.add_mod_right, Nat.mod_eq_of_lt (by omega)]
theorem cutB_sides {l : List P2} {i k : Nat} (h1 : i < k) (h2 : k < l.length) : sidesL (cutB l i k) = ((sidesL l).drop i).take (k - i) ++ [(pt_ l k, pt_ l i)] := by
  refine ext_sd (n := k - i + 1) (by rw [sidesL_len, cutB_len (by omega) h2]) (by simp only [List.length_append, List.length_take, List.length_drop, sidesL_len, List.length_singleton]; omega) fun j hj => ?_
  rw [sd_at (by rw [cutB_len (by omega) h2]; exact hj)]
  by_cases g : j < k - i
  · rw [List.getElem?_append_left (by simp only [List.length_take, List.length_drop, sidesL_len]; omega), List.getElem?_take_of_lt g, List.getElem?_drop, sd_at (by omega)]
    congr 1
    unfold sd
    rw [cutB_len (by omega) h2, Nat.mod_eq_of_lt hj, Nat.mod_eq_of_lt (show j + 1 < k - i + 1 by omega), cutB_pt (by omega), cutB_pt (by omega), Nat.mod_eq_of_lt (show i + j < l.length by omega), Nat.mod_eq_of_lt (show i + j + 1 < l.length by omega), Nat.add_assoc]
  · obtain rfl : j = k - i := by omega
    rw [List.getElem?_append_right (by simp only [List.length_take, List.length_drop, sidesL_len]; omega)]
    simp only [List.length_take, List.length_drop, sidesL_len]
    rw [show k - i - min (k - i) (l.length - i) = 0 by omega]
    show some (sd _ _) = some _
    congr 1
    unfold sd
    rw [cutB_len (by omega) h2, Nat.mod_eq_of_lt hj, Nat.mod_self, cutB_pt (Nat.le_refl _), cutB_pt (Nat.zero_le _), show i + (k - i) = k by omega, Nat.add_zero]
theorem cutC_sides {l : List P2} {i k : Nat} (h1 : i < k) (h2 : k < l.length) : sidesL (cutC l i k) = ((sidesL l).drop k ++ (sidesL l).take i) ++ [(pt_ l i, pt_ l k)] := by
  refine ext_sd (n := l.length - k + (i + 1)) (by rw [sidesL_len, cutC_len (by omega) h2]) (by simp only [List.length_append, List.length_take, List.length_drop, sidesL_len, List.length_singleton]; omega) fun j hj => ?_
  rw [sd_at (by rw [cutC_len (by omega) h2]; exact hj)]
  have hmod : ∀ m, m < l.length - k + (i + 1) → (k + m) % l.length = if m < l.length - k then k + m else m - (l.length - k) := fun m hm => by
    split
    · exact Nat.mod_eq_of_lt (by omega)
    · rw [show k + m = m - (l.length - k) + l.length by omega, Nat.add_mod_right, Nat.mod_eq_of_lt (by omega)]
  by_cases g : j < l.length - k + i
  · rw [List.getElem?_append_left (by simp only [List.length_append, List.length_take, List.length_drop, sidesL_len]; omega)]
    have e : sd (cutC l i k) j = sd l (k + j) := by
      unfold sd
      rw [cutC_len (by omega) h2, Nat.mod_eq_of_lt hj, Nat.mod_eq_of_lt (show j + 1 < l.length - k + (i + 1) by omega), cutC_pt (by omega) h2 hj, cutC_pt (by omega) h2 (by omega), Nat.add_assoc]
    rw [e]
    by_cases g2 : j < l.length - k
    · rw [List.getElem?_append_left (by rw [List.length_drop, sidesL_len]; exact g2), List.getElem?_drop, sd_at (by omega)]
    · rw [List.getElem?_append_right (by rw [List.length_drop, sidesL_len]; omega), List.length_drop, sidesL_len, List.getElem?_take_of_lt (by omega), sd_at (by omega)]
      congr 1
      unfold sd
      rw [show k + j = j - (l.length - k) + l.length by omega, Nat.add_mod_right, show j - (l.length - k) + l.length + 1 = j - (l.length - k) + 1 + l.length by omega, Nat.add_mod_right]
  · obtain rfl : j = l.length - k + i := by omega
    rw [List.getElem?_append_right (by simp only [List.length_append, List.length_take, List.length_drop, sidesL_len]; omega)]
    simp only [List.length_append, List.length_take, List.length_drop, sidesL_len]
    rw [show l.length - k + i - (l.length - k + min i l.length) = 0 by omega]
    show some (sd _ _) = some _
    congr 1
    unfold sd
    rw [cutC_len (by omega) h2, Nat.mod_eq_of_lt hj, show l.length - k + i + 1 = l.length - k + (i + 1) by omega, Nat.mod_self, cutC_pt (by omega) h2 hj, cutC_pt (by omega) h2 (by omega), hmod _ hj, if_neg (by omega), hmod _ (by omega), if_pos (by omega), Nat.add_zero, show l.length - k + i - (l.length - k) = i by omega]
theorem cut_perm {l : List P2} {i k : Nat} (h1 : i < k) (h2 : k < l.length) : (sidesL (cutB l i k) ++ sidesL (cutC l i k)).Perm (sidesL l ++ [(pt_ l k, pt_ l i), (pt_ l i, pt_ l k)]) := by
  rw [cutB_sides h1 h2, cutC_sides h1 h2]
  have e : sidesL l = (sidesL l).take i ++ (((sidesL l).drop i).take (k - i) ++ (sidesL l).drop k) := by
    have e2 : (sidesL l).drop k = ((sidesL l).drop i).drop (k - i) := by rw [List.drop_drop, show i + (k - i) = k by omega]
    rw [e2, List.take_append_drop, List.take_append_drop]
  generalize hS : sidesL l = S at *
  generalize ((S.drop i).take (k - i)) = M at *
  generalize hD : S.drop k = D at *
  generalize hT : S.take i = T at *
  rw [e]
  generalize (pt_ l k, pt_ l i) = a
  generalize (pt_ l i, pt_ l k) = b
  have p1 : (M ++ [a] ++ (D ++ T ++ [b])).Perm (T ++ (M ++ D) ++ [a, b]) := by
    classical
    refine List.perm_iff_count.2 fun x => ?_
    simp only [List.count_append, List.count_cons, List.count_nil]
    omega
  exact p1
theorem odd_two (p : P2) (a b : P2) : oddB (fun x => crB x.1 x.2 p) [(a, b), (b, a)] = false := by
  unfold oddB
  have e := cr_sw a b p
  cases h : crB a b p
  · rw [h] at e; simp [h, e]
  · rw [h] at e; simp [h, e]
theorem cut_ok {z : ByteArray} {l : List P2} {i k : Nat} (h : arOk z l = true) (h1 : i + 2 ≤ k) (h2 : k < l.length) (h3 : k - i + 2 ≤ l.length) : arOk z (cutB l i k) = true ∧ arOk z (cutC l i k) = true := by
  obtain ⟨a, b, c⟩ := ar_iff.1 h
  have hall := fun x (hx : x ∈ l) => (show x.ok = true from List.all_eq_true.1 (show l.all P2.ok = true from c) x hx)
  refine ⟨ar_iff.2 ⟨a, ?_, List.all_eq_true.2 fun x hx => hall x (List.mem_of_mem_drop (List.mem_of_mem_take hx))⟩, ar_iff.2 ⟨a, ?_, List.all_eq_true.2 fun x hx => ?_⟩⟩
  · rw [cutB_len (by omega) h2]; omega
  · rw [cutC_len (by omega) h2]; omega
  · rcases List.mem_append.1 hx with g | g
    · exact hall x (List.mem_of_mem_drop g)
    · exact hall x (List.mem_of_mem_take g)
/-- CUT IN TWO -/
theorem cut_law {z : ByteArray} {l : List P2} {i k : Nat} (h : arOk z l = true) (h1 : i + 2 ≤ k) (h2 : k < l.length) (h3 : k - i + 2 ≤ l.length) (p : P2) :
    szV z (cutB l i k) + szV z (cutC l i k) = szV z l ∧ (edB (cutB l i k) p = false → edB (cutC l i k) p = false → inB l p = (inB (cutB l i k) p != inB (cutC l i k) p)) := by
  have hp := cut_perm (l := l) (show i < k by omega) h2
  obtain ⟨o1, o2⟩ := cut_ok h h1 h2 h3
  refine ⟨?_, fun e1 e2 => ?_⟩
  · rw [(sz_ok o1).1, (sz_ok o2).1, (sz_ok h).1, ← sum_app, sum_perm hp, sum_app]
    show _ + (csP (pt_ l k, pt_ l i) + (csP (pt_ l i, pt_ l k) + 0)) = _
    unfold csP
    simp only
    rw [Int.mul_comm (pt_ l i).lo, Int.mul_comm (pt_ l i).la]; omega
  · have e3 : edB l p = false := by
      have hx := any_perm (f := fun s : P2 × P2 => betV s.1 p s.2) hp
      rw [List.any_append, List.any_append] at hx
      unfold edB at e1 e2 ⊢
      rw [e1, e2] at hx
      cases g : (sidesL l).any fun s => betV s.1 p s.2 with
      | false => rfl
      | true => rw [g] at hx; simp at hx
    have ho := odd_perm (f := fun x : P2 × P2 => crB x.1 x.2 p) hp
    rw [odd_app, odd_app, odd_two] at ho
    unfold inB
    rw [e1, e2, e3, odd_fold, odd_fold, odd_fold, Bool.false_or, Bool.false_or, Bool.false_or, ho]
    simp
/-- THREE CORNERS -/
theorem side_sw (a b p : P2) : side b a p = -side a b p := by unfold side; grind
theorem side_id (a b c p : P2) : side b c p * (a.la - p.la) + side c a p * (b.la - p.la) + side a b p * (c.la - p.la) = 0 := by unfold side; grind
theorem bet_of {a b p : P2} (ha : a.ok = true) (hb : b.ok = true) (hp : p.ok = true) (h : side a b p = 0) (h1 : a.la ≤ p.la) (h2 : p.la < b.la) : betV a p b = true := by
  unfold betV ok3
  rw [ha, hp, hb]
  have hc : cross a p b = 0 := by have : cross a p b = side a b p := by { unfold cross side; grind }; omega
  have hd : dot a p b ≤ 0 := by
    have e : dot a p b * (b.la - p.la) = (a.la - p.la) * ((b.lo - p.lo) * (b.lo - p.lo) + (b.la - p.la) * (b.la - p.la)) := by
      have hs := h
      unfold side at hs
      unfold dot
      grind
    have hq : 0 ≤ (b.lo - p.lo) * (b.lo - p.lo) + (b.la - p.la) * (b.la - p.la) := by have := sq_nonneg (b.lo - p.lo); have := sq_nonneg (b.la - p.la); omega
    have hn : (a.la - p.la) * ((b.lo - p.lo) * (b.lo - p.lo) + (b.la - p.la) * (b.la - p.la)) ≤ 0 := Int.mul_nonpos_of_nonpos_of_nonneg (by omega) hq
    rw [← e] at hn
    rcases Int.lt_or_le 0 (dot a p b) with g | g
    · have := Int.mul_pos g (show 0 < b.la - p.la by omega); omega
    · exact g
  rw [decide_eq_true hc, decide_eq_true hd]; rfl
/-- low: not above the point -/
def lowB (a p : P2) : Bool := decide (a.la ≤ p.la)
def crF (sa sb : Bool) (X : Int) : Bool := (sa && (!sb && decide (0 < X))) || (!sa && (sb && decide (X < 0)))
theorem cr_form {a b p : P2} (ha : a.ok = true) (hb : b.ok = true) (hp : p.ok = true) : crB a b p = crF (lowB a p) (lowB b p) (side a b p) := by
  have s1 : turnV a b p = sgn (side a b p) := by unfold turnV; rw [if_pos (show ok3 a b p = true by unfold ok3; rw [ha, hb, hp]; rfl)]
  have s2 : turnV b a p = sgn (-side a b p) := by unfold turnV; rw [if_pos (show ok3 b a p = true by unfold ok3; rw [ha, hb, hp]; rfl), side_sw]
  have t1 : decide (turnV a b p = 1) = decide (0 < side a b p) := by
    rw [s1]; unfold sgn
    by_cases h : 0 < side a b p
    · rw [if_pos h]; simp [h]
    · rw [if_neg h]; split <;> simp [h]
  have t2 : decide (turnV b a p = 1) = decide (side a b p < 0) := by
    rw [s2]; unfold sgn
    by_cases h : side a b p < 0
    · rw [if_pos (by omega)]; simp [h]
    · rw [if_neg (by omega)]; split <;> simp [h]
  unfold crB lowB crF
  rw [t1, t2]
  by_cases h : b.la < a.la
  · rw [if_pos h]
    by_cases g1 : a.la ≤ p.la
    · rw [decide_eq_true g1, decide_eq_true (show b.la ≤ p.la by omega), decide_eq_false (show ¬ p.la < a.la by omega)]; rfl
    · rw [decide_eq_false g1, decide_eq_true (show p.la < a.la by omega)]
      cases decide (b.la ≤ p.la) <;> simp
  · rw [if_neg h]
    by_cases g1 : b.la ≤ p.la
    · rw [decide_eq_true g1, decide_eq_true (show a.la ≤ p.la by omega), decide_eq_false (show ¬ p.la < b.la by omega)]; rfl
    · rw [decide_eq_false g1, decide_eq_true (show p.la < b.la by omega)]
      cases decide (a.la ≤ p.la) <;> simp
/-- on one hand of whoever goes round -/
def oneB (x y z : Int) : Bool := decide ((0 < x ∧ 0 < y ∧ 0 < z) ∨ (x < 0 ∧ y < 0 ∧ z < 0))
theorem nn {x y : Int} (h1 : x ≤ 0) (h2 : y ≤ 0) : 0 ≤ x * y := by have := Int.mul_nonneg (show 0 ≤ -x by omega) (show 0 ≤ -y by omega); rwa [Int.neg_mul_neg] at this
theorem pn {x y : Int} (h1 : 0 ≤ x) (h2 : y ≤ 0) : x * y ≤ 0 := by have := Int.mul_nonneg h1 (show 0 ≤ -y by omega); rw [Int.mul_neg] at this; omega
theorem np {x y : Int} (h1 : x ≤ 0) (h2 : 0 ≤ y) : x * y ≤ 0 := by rw [Int.mul_comm]; exact pn h2 h1
theorem tri_int {sa sb : Bool} {X Y Z u v t : Int} (id : Y * u + Z * v + X * t = 0) (hu : sa = true ↔ u ≤ 0) (hv : sb = true ↔ v ≤ 0) (ht : sb = true ↔ t ≤ 0) (x0 : sa ≠ sb → X ≠ 0) (z0 : sa ≠ sb → Z ≠ 0)
    (hall : u = 0 → v = 0 → t = 0 → X = 0) (hy : 0 < u → v = 0 → t = 0 → ¬ (X < 0 ∧ Z < 0) ∧ ¬ (0 < X ∧ 0 < Z)) : ((crF sa sb X != crF sb sb Y) != crF sb sa Z) = oneB X Y Z := by
  unfold oneB
  cases sa <;> cases sb
  · have h1 : 0 < u := by have := (not_congr hu).1 (by decide); omega
    have h2 : 0 < v := by have := (not_congr hv).1 (by decide); omega
    have h3 : 0 < t := by have := (not_congr ht).1 (by decide); omega
    rw [decide_eq_false]; · rfl
    rintro (⟨k1, k2, k3⟩ | ⟨k1, k2, k3⟩)
    · have := Int.mul_pos k2 h1; have := Int.mul_pos k3 h2; have := Int.mul_pos k1 h3; omega
    · have := Int.mul_neg_of_neg_of_pos k2 h1; have := Int.mul_neg_of_neg_of_pos k3 h2; have := Int.mul_neg_of_neg_of_pos k1 h3; omega
  · have h1 : 0 < u := by have := (not_congr hu).1 (by decide); omega
    have h2 : v ≤ 0 := hv.1 rfl
    have h3 : t ≤ 0 := ht.1 rfl
    have X0 := x0 (by decide); have Z0 := z0 (by decide)
    have e : ((crF false true X != crF true true Y) != crF true false Z) = (decide (X < 0) != decide (0 < Z)) := by unfold crF; simp
    rw [e]
    by_cases kx : X < 0 <;> by_cases kz : 0 < Z
    · rw [decide_eq_true kx, decide_eq_true kz, decide_eq_false (by omega)]; rfl
    · have kz' : Z < 0 := by omega
      have m1 := nn (Int.le_of_lt kz') h2
      have m2 := nn (Int.le_of_lt kx) h3
      have ky : Y < 0 := by
        rcases Int.lt_trichotomy Y 0 with g | g | g
        · exact g
        · rw [g, Int.zero_mul] at id
          have v0 : v = 0 := by rcases Int.mul_eq_zero.1 (show Z * v = 0 by omega) with q | q <;> omega
          have t0 : t = 0 := by rcases Int.mul_eq_zero.1 (show X * t = 0 by omega) with q | q <;> omega
          exact absurd ⟨kx, kz'⟩ (hy h1 v0 t0).1
        · have := Int.mul_pos g h1; omega
      rw [decide_eq_true kx, decide_eq_false kz, decide_eq_true (.inr ⟨kx, ky, kz'⟩)]; rfl
    · have kx' : 0 < X := by omega
      have m1 := pn (Int.le_of_lt kz) h2
      have m2 := pn (Int.le_of_lt kx') h3
      have ky : 0 < Y := by
        rcases Int.lt_trichotomy Y 0 with g | g | g
        · have := Int.mul_neg_of_neg_of_pos g h1; omega
        · rw [g, Int.zero_mul] at id
          have v0 : v = 0 := by rcases Int.mul_eq_zero.1 (show Z * v = 0 by omega) with q | q <;> omega
          have t0 : t = 0 := by rcases Int.mul_eq_zero.1 (show X * t = 0 by omega) with q | q <;> omega
          exact absurd ⟨kx', kz⟩ (hy h1 v0 t0).2
        · exact g
      rw [decide_eq_false kx, decide_eq_true kz, decide_eq_true (.inl ⟨kx', ky, kz⟩)]; rfl
    · rw [decide_eq_false kx, decide_eq_false kz, decide_eq_false (by omega)]; rfl
  · have h1 : u ≤ 0 := hu.1 rfl
    have h2 : 0 < v := by have := (not_congr hv).1 (by decide); omega
    have h3 : 0 < t := by have := (not_congr ht).1 (by decide); omega
    have X0 := x0 (by decide); have Z0 := z0 (by decide)
    have e : ((crF true false X != crF false false Y) != crF false true Z) = (decide (0 < X) != decide (Z < 0)) := by unfold crF; simp
    rw [e]
    by_cases kx : 0 < X <;> by_cases kz : Z < 0
    · rw [decide_eq_true kx, decide_eq_true kz, decide_eq_false (by omega)]; rfl
    · have kz' : 0 < Z := by omega
      have m1 := Int.mul_pos kz' h2
      have m2 := Int.mul_pos kx h3
      have ky : 0 < Y := by
        rcases Int.lt_or_le 0 Y with g | g
        · exact g
        · have := nn g h1; omega
      rw [decide_eq_true kx, decide_eq_false kz, decide_eq_true (.inl ⟨kx, ky, kz'⟩)]; rfl
    · have kx' : X < 0 := by omega
      have m1 := Int.mul_neg_of_neg_of_pos kz h2
      have m2 := Int.mul_neg_of_neg_of_pos kx' h3
      have ky : Y < 0 := by
        rcases Int.lt_or_le Y 0 with g | g
        · exact g
        · have := pn g h1; omega
      rw [decide_eq_false kx, decide_eq_true kz, decide_eq_true (.inr ⟨kx', ky, kz⟩)]; rfl
    · rw [decide_eq_false kx, decide_eq_false kz, decide_eq_false (by omega)]; rfl
  · have h1 : u ≤ 0 := hu.1 rfl
    have h2 : v ≤ 0 := hv.1 rfl
    have h3 : t ≤ 0 := ht.1 rfl
    rw [decide_eq_false]; · rfl
    rintro (⟨k1, k2, k3⟩ | ⟨k1, k2, k3⟩)
    · have m1 := pn (Int.le_of_lt k2) h1; have m2 := pn (Int.le_of_lt k3) h2; have m3 := pn (Int.le_of_lt k1) h3
      have u0 : u = 0 := by rcases Int.mul_eq_zero.1 (show Y * u = 0 by omega) with q | q <;> omega
      have v0 : v = 0 := by rcases Int.mul_eq_zero.1 (show Z * v = 0 by omega) with q | q <;> omega
      have t0 : t = 0 := by rcases Int.mul_eq_zero.1 (show X * t = 0 by omega) with q | q <;> omega
      have := hall u0 v0 t0; omega
    · have m1 := nn (Int.le_of_lt k2) h1; have m2 := nn (Int.le_of_lt k3) h2; have m3 := nn (Int.le_of_lt k1) h3
      have u0 : u = 0 := by rcases Int.mul_eq_zero.1 (show Y * u = 0 by omega) with q | q <;> omega
      have v0 : v = 0 := by rcases Int.mul_eq_zero.1 (show Z * v = 0 by omega) with q | q <;> omega
      have t0 : t = 0 := by rcases Int.mul_eq_zero.1 (show X * t = 0 by omega) with q | q <;> omega
      have := hall u0 v0 t0; omega
theorem tri_core {a b c p : P2} (ha : a.ok = true) (hb : b.ok = true) (hc : c.ok = true) (hp : p.ok = true) (n1 : betV a p b = false) (n2 : betV b p c = false) (n3 : betV c p a = false) (hs : lowB b p = lowB c p) :
    ((crB a b p != crB b c p) != crB c a p) = oneB (side a b p) (side b c p) (side c a p) := by
  have le : ∀ q : P2, lowB q p = true ↔ q.la - p.la ≤ 0 := fun q => by unfold lowB; rw [decide_eq_true_iff]; omega
  have z : ∀ q r : P2, q.ok = true → r.ok = true → betV q p r = false → lowB q p ≠ lowB r p → side q r p ≠ 0 := fun q r hq hr hn hne e => by
    cases eq : lowB q p <;> cases er : lowB r p
    · rw [eq, er] at hne; exact hne rfl
    · have h1 := (not_congr (le q)).1 (by rw [eq]; decide); have h2 := (le r).1 er
      have := bet_of hr hq hp (by rw [side_sw, e]; rfl) (by omega) (by omega)
      rw [bet_back, hn] at this; cases this
    · have h1 := (le q).1 eq; have h2 := (not_congr (le r)).1 (by rw [er]; decide)
      have := bet_of hq hr hp e (by omega) (by omega)
      rw [hn] at this; cases this
    · rw [eq, er] at hne; exact hne rfl
  rw [cr_form ha hb hp, cr_form hb hc hp, cr_form hc ha hp, ← hs]
  refine tri_int (u := a.la - p.la) (v := b.la - p.la) (t := c.la - p.la) (side_id a b c p) (le a) (le b) (by rw [hs]; exact le c) (z a b ha hb n1) (fun h => z c a hc ha n3 (by rw [← hs]; exact fun e => h e.symm)) (fun h1 h2 h3 => ?_) (fun h1 h2 h3 => ?_)
  · unfold side
    rw [show p.la - b.la = 0 by omega, show b.la - a.la = 0 by omega]; simp
  · have eX : side a b p = (a.la - p.la) * (p.lo - b.lo) := by
      unfold side; rw [show p.la - b.la = 0 by omega, show -(b.la - a.la) = a.la - p.la by omega]; simp
    have eZ : side c a p = (a.la - p.la) * (c.lo - p.lo) := by
      unfold side; rw [show p.la - a.la = -(a.la - p.la) by omega, show a.la - c.la = a.la - p.la by omega]; grind
    have hd : 0 < (b.lo - p.lo) * (c.lo - p.lo) := by
      have hx : cross b p c = 0 := by unfold cross; rw [show c.la - p.la = 0 from h3, show b.la - p.la = 0 from h2]; simp
      unfold betV ok3 at n2
      rw [hb, hp, hc, decide_eq_true hx] at n2
      have hdd : ¬ dot b p c ≤ 0 := by simpa using n2
      unfold dot at hdd
      rw [show b.la - p.la = 0 from h2] at hdd
      simp at hdd
      exact hdd
    refine ⟨fun ⟨g1, g2⟩ => ?_, fun ⟨g1, g2⟩ => ?_⟩
    · rw [eX] at g1; rw [eZ] at g2
      have k1 : p.lo - b.lo < 0 := by
        rcases Int.lt_or_le (p.lo - b.lo) 0 with g | g
        · exact g
        · have := Int.mul_nonneg (Int.le_of_lt h1) g; omega
      have k2 : c.lo - p.lo < 0 := by
        rcases Int.lt_or_le (c.lo - p.lo) 0 with g | g
        · exact g
        · have := Int.mul_nonneg (Int.le_of_lt h1) g; omega
      have := pn (show 0 ≤ b.lo - p.lo by omega) (show c.lo - p.lo ≤ 0 by omega); omega
    · rw [eX] at g1; rw [eZ] at g2
      have k1 : 0 < p.lo - b.lo := by
        rcases Int.lt_or_le 0 (p.lo - b.lo) with g | g
        · exact g
        · have := pn (Int.le_of_lt h1) g; omega
      have k2 : 0 < c.lo - p.lo := by
        rcases Int.lt_or_le 0 (c.lo - p.lo) with g | g
        · exact g
        · have := pn (Int.le_of_lt h1) g; omega
      have := np (show b.lo - p.lo ≤ 0 by omega) (show 0 ≤ c.lo - p.lo by omega); omega
theorem one_turn (x y z : Int) : oneB y z x = oneB x y z := by unfold oneB; congr 1; simp only [eq_iff_iff]; omega
/-- THREE CORNERS -/
theorem tri_law {a b c p : P2} (ha : a.ok = true) (hb : b.ok = true) (hc : c.ok = true) (hp : p.ok = true) (he : edB [a, b, c] p = false) :
    odB p (sidesL [a, b, c]) = oneB (side a b p) (side b c p) (side c a p) := by
  have e : edB [a, b, c] p = (betV a p b || (betV b p c || (betV c p a || false))) := rfl
  rw [e] at he
  simp only [Bool.or_false, Bool.or_eq_false_iff] at he
  obtain ⟨n1, n2, n3⟩ := he
  have e2 : odB p (sidesL [a, b, c]) = ((crB a b p != crB b c p) != crB c a p) := by
    show (if crB c a p = true then !(if crB b c p = true then !(if crB a b p = true then !false else false) else (if crB a b p = true then !false else false)) else (if crB b c p = true then !(if crB a b p = true then !false else false) else (if crB a b p = true then !false else false))) = _
    cases crB a b p <;> cases crB b c p <;> cases crB c a p <;> rfl
  rw [e2]
  by_cases h1 : lowB b p = lowB c p
  · exact tri_core ha hb hc hp n1 n2 n3 h1
  · by_cases h2 : lowB c p = lowB a p
    · have := tri_core hb hc ha hp n2 n3 n1 h2
      rw [one_turn] at this
      rw [← this]
      cases crB a b p <;> cases crB b c p <;> cases crB c a p <;> rfl
    · have h3 : lowB a p = lowB b p := by cases g1 : lowB a p <;> cases g2 : lowB b p <;> cases g3 : lowB c p <;> simp_all
      have := tri_core hc ha hb hp n3 n1 n2 h3
      rw [one_turn, one_turn] at this
      rw [← this]
      cases crB a b p <;> cases crB b c p <;> cases crB c a p <;> rfl
end Go.Proofs.Ytoiccljmdplfgaa.Ar
