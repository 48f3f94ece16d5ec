/-
  STABLE SORTING, IN PLAIN LEAN: rows of numbers as functions; exchanges; turning; merging.
-/
namespace Go.Proofs.Ytoiccljmdplfgaa.So
set_option linter.unusedVariables false
abbrev Fn_ := Nat → Nat
/-- x is ahead of y -/
def Lt (far : Nat → Int) (x y : Nat) : Prop := far x < far y ∨ (far x = far y ∧ x < y)
theorem Lt.trans {far : Nat → Int} {x y z : Nat} (h : Lt far x y) (k : Lt far y z) : Lt far x z := by unfold Lt at *; omega
theorem Lt.irr {far : Nat → Int} {x : Nat} (h : Lt far x x) : False := by unfold Lt at h; omega
theorem Lt.tot {far : Nat → Int} {x y : Nat} (h : x ≠ y) : Lt far x y ∨ Lt far y x := by unfold Lt; omega
theorem Lt.asymm {far : Nat → Int} {x y : Nat} (h : Lt far x y) (k : Lt far y x) : False := (h.trans k).irr
/-- a' is a, but for an order of the places from lo up to hi -/
def Pm (lo hi : Nat) (a a' : Fn_) : Prop := ∃ s : Nat → Nat, (∀ x y, s x = s y → x = y) ∧ (∀ j, (j < lo ∨ hi ≤ j) → s j = j) ∧ (∀ j, lo ≤ j → j < hi → lo ≤ s j ∧ s j < hi) ∧ ∀ j, a' j = a (s j)
theorem Pm.refl (lo hi : Nat) (a : Fn_) : Pm lo hi a a := ⟨id, fun _ _ h => h, fun _ _ => rfl, fun j h1 h2 => ⟨h1, h2⟩, fun _ => rfl⟩
theorem Pm.trans {lo hi : Nat} {a b c : Fn_} (h : Pm lo hi a b) (k : Pm lo hi b c) : Pm lo hi a c := by
  obtain ⟨s, h1, h2, h3, h4⟩ := h
  obtain ⟨t, k1, k2, k3, k4⟩ := k
  refine ⟨fun j => s (t j), fun x y e => k1 _ _ (h1 _ _ e), fun j hj => ?_, fun j q1 q2 => ?_, fun j => ?_⟩
  · show s (t j) = j; rw [k2 j hj, h2 j hj]
  · obtain ⟨q3, q4⟩ := k3 j q1 q2; exact h3 _ q3 q4
  · rw [k4, h4]
theorem Pm.mono {lo hi lo' hi' : Nat} {a b : Fn_} (h : Pm lo hi a b) (h1 : lo' ≤ lo) (h2 : hi ≤ hi') : Pm lo' hi' a b := by
  obtain ⟨s, k1, k2, k3, k4⟩ := h
  refine ⟨s, k1, fun j hj => k2 j (by omega), fun j q1 q2 => ?_, k4⟩
  by_cases q : lo ≤ j ∧ j < hi
  · obtain ⟨q3, q4⟩ := k3 j q.1 q.2; omega
  · rw [k2 j (by omega)]; omega
theorem Pm.out {lo hi : Nat} {a b : Fn_} (h : Pm lo hi a b) {j : Nat} (hj : j < lo ∨ hi ≤ j) : b j = a j := by
  obtain ⟨s, _, k2, _, k4⟩ := h; rw [k4, k2 j hj]
theorem Pm.from_ {lo hi : Nat} {a b : Fn_} (h : Pm lo hi a b) {j : Nat} (h1 : lo ≤ j) (h2 : j < hi) : ∃ k, lo ≤ k ∧ k < hi ∧ b j = a k := by
  obtain ⟨s, _, _, k3, k4⟩ := h; exact ⟨s j, (k3 j h1 h2).1, (k3 j h1 h2).2, k4 j⟩
theorem Pm.inj {lo hi : Nat} {a b : Fn_} (h : Pm lo hi a b) (ha : ∀ x y, a x = a y → x = y) : ∀ x y, b x = b y → x = y := by
  obtain ⟨s, k1, _, _, k4⟩ := h
  intro x y e; rw [k4, k4] at e; exact k1 _ _ (ha _ _ e)
theorem Pm.narrow {lo : Nat} {a b : Fn_} (h : Pm lo (lo + 1) a b) : Pm lo lo a b := by
  obtain ⟨s, k1, k2, k3, k4⟩ := h
  refine ⟨s, k1, fun j hj => ?_, fun j q1 q2 => by omega, k4⟩
  by_cases e : j = lo
  · have := k3 j (by omega) (by omega); omega
  · exact k2 j (by omega)
/-- two places exchanged -/
def swp (a : Fn_) (i j : Nat) : Fn_ := fun x => if x = i then a j else if x = j then a i else a x
theorem Pm.swp_ {lo hi i j : Nat} (a : Fn_) (h1 : lo ≤ i) (h2 : i < hi) (h3 : lo ≤ j) (h4 : j < hi) : Pm lo hi a (swp a i j) := by
  refine ⟨fun x => if x = i then j else if x = j then i else x, fun x y e => ?_, fun x hx => ?_, fun x q1 q2 => ?_, fun x => ?_⟩
  · dsimp only at e
    split at e <;> split at e <;> (try split at e) <;> (try split at e) <;> omega
  · show (if x = i then j else if x = j then i else x) = x
    rw [if_neg (by omega), if_neg (by omega)]
  · show lo ≤ (if x = i then j else if x = j then i else x) ∧ (if x = i then j else if x = j then i else x) < hi
    split
    · omega
    · split <;> omega
  · unfold swp
    show _ = a (if x = i then j else if x = j then i else x)
    split
    · rfl
    · split <;> rfl
def Sd (far : Nat → Int) (lo hi : Nat) (a : Fn_) : Prop := ∀ i j, lo ≤ i → i < j → j < hi → Lt far (a i) (a j)
/-- values in the order of their places -/
def Up (lo hi : Nat) (a : Fn_) : Prop := ∀ i j, lo ≤ i → i < j → j < hi → a i < a j
/-- two rows next to one another exchanged: n places from p on, and from q on -/
def swr (a : Fn_) (p q n : Nat) : Fn_ := fun x => if p ≤ x ∧ x < p + n then a (x - p + q) else if q ≤ x ∧ x < q + n then a (x - q + p) else a x
theorem swr_0 (a : Fn_) (p q : Nat) : swr a p q 0 = a := by funext x; unfold swr; rw [if_neg (by omega), if_neg (by omega)]
theorem swr_succ (a : Fn_) (p q n : Nat) (h : p + n < q) : swp (swr a p q n) (p + n) (q + n) = swr a p q (n + 1) := by
  funext x
  unfold swp swr
  by_cases e1 : x = p + n
  · subst e1
    rw [if_pos rfl, if_neg (by omega), if_neg (by omega), if_pos (by omega)]; congr 1; omega
  · rw [if_neg e1]
    by_cases e2 : x = q + n
    · subst e2
      rw [if_pos rfl, if_neg (by omega), if_neg (by omega), if_neg (by omega), if_pos (by omega)]; congr 1; omega
    · rw [if_neg e2]
      by_cases g1 : p ≤ x ∧ x < p + n
      · rw [if_pos g1, if_pos (by omega)]
      · rw [if_neg g1]
        by_cases g2 : q ≤ x ∧ x < q + n
        · rw [if_pos g2, if_neg (by omega), if_pos (by omega)]
        · rw [if_neg g2, if_neg (by omega), if_neg (by omega)]
theorem Pm.swr_ {lo hi p q n : Nat} (a : Fn_) (h0 : p + n ≤ q) (h1 : lo ≤ p) (h2 : q + n ≤ hi) : Pm lo hi a (swr a p q n) := by
  induction n with
  | zero => rw [swr_0]; exact Pm.refl _ _ _
  | succ n ih => rw [← swr_succ a p q n (by omega)]; exact (ih (by omega) (by omega)).trans (Pm.swp_ _ (by omega) (by omega) (by omega) (by omega))
/-- a row turned: what was from m up to b is ahead of what was from a up to m -/
def rot (a : Fn_) (lo m hi : Nat) : Fn_ := fun x => if lo ≤ x ∧ x < lo + (hi - m) then a (x + (m - lo)) else if lo + (hi - m) ≤ x ∧ x < hi then a (x - (hi - m)) else a x
theorem rot_gt (a : Fn_) (m i j : Nat) (h : j < i) (hi : i ≤ m) : rot (swr a (m - i) m j) (m - i + j) m (m + j) = rot a (m - i) m (m + j) := by
  funext x
  unfold rot swr
  by_cases g1 : m - i ≤ x ∧ x < m - i + j
  · rw [if_neg (by omega), if_neg (by omega), if_pos g1, if_pos (by omega)]; congr 1; omega
  · by_cases g2 : m - i + j ≤ x ∧ x < m - i + j + j
    · rw [if_pos (by omega), if_neg (by omega : ¬ (m - i ≤ x ∧ x < m - i + (m + j - m))), if_pos (by omega : m - i + (m + j - m) ≤ x ∧ x < m + j)]
      by_cases q : m ≤ x + (m - (m - i + j)) ∧ x + (m - (m - i + j)) < m + j
      · rw [if_neg (by omega), if_pos q]; congr 1; omega
      · omega
    · by_cases g3 : m - i + j + j ≤ x ∧ x < m + j
      · rw [if_neg (by omega), if_pos (by omega : m - i + j + (m + j - m) ≤ x ∧ x < m + j), if_neg (by omega : ¬ (m - i ≤ x ∧ x < m - i + (m + j - m))), if_pos (by omega : m - i + (m + j - m) ≤ x ∧ x < m + j)]
        rw [if_neg (by omega), if_neg (by omega)]
      · rw [if_neg (by omega), if_neg (by omega), if_neg (by omega), if_neg (by omega), if_neg (by omega), if_neg (by omega)]
theorem rot_lt (a : Fn_) (m i j : Nat) (h : i < j) (hi : i ≤ m) : rot (swr a (m - i) (m + j - i) i) (m - i) m (m + j - i) = rot a (m - i) m (m + j) := by
  funext x
  unfold rot swr
  by_cases g1 : m - i ≤ x ∧ x < m - i + (j - i)
  · rw [if_pos (by omega), if_pos (by omega : m - i ≤ x ∧ x < m - i + (m + j - m))]
    by_cases q : m + j - i ≤ x + (m - (m - i))
    · omega
    · rw [if_neg (by omega), if_neg (by omega)]
  · by_cases g2 : m - i + (j - i) ≤ x ∧ x < m + j - i
    · rw [if_neg (by omega), if_pos (by omega : m - i + (m + j - i - m) ≤ x ∧ x < m + j - i), if_pos (by omega : m - i ≤ x - (m + j - i - m) ∧ x - (m + j - i - m) < m - i + i)]
      by_cases q : m - i ≤ x ∧ x < m - i + (m + j - m)
      · rw [if_pos q]; congr 1; omega
      · omega
    · by_cases g3 : m + j - i ≤ x ∧ x < m + j
      · rw [if_neg (by omega), if_neg (by omega), if_neg (by omega), if_pos (by omega : m + j - i ≤ x ∧ x < m + j - i + i), if_neg (by omega), if_pos (by omega : m - i + (m + j - m) ≤ x ∧ x < m + j)]; congr 1; omega
      · rw [if_neg (by omega), if_neg (by omega), if_neg (by omega), if_neg (by omega), if_neg (by omega), if_neg (by omega)]
theorem rot_eq (a : Fn_) (m i : Nat) (hi : i ≤ m) : swr a (m - i) m i = rot a (m - i) m (m + i) := by
  funext x
  unfold rot swr
  by_cases g1 : m - i ≤ x ∧ x < m - i + i
  · rw [if_pos g1, if_pos (by omega)]; congr 1; omega
  · rw [if_neg g1]
    by_cases g2 : m ≤ x ∧ x < m + i
    · rw [if_pos g2, if_neg (by omega : ¬ (m - i ≤ x ∧ x < m - i + (m + i - m))), if_pos (by omega : m - i + (m + i - m) ≤ x ∧ x < m + i)]; congr 1; omega
    · rw [if_neg g2, if_neg (by omega : ¬ (m - i ≤ x ∧ x < m - i + (m + i - m))), if_neg (by omega : ¬ (m - i + (m + i - m) ≤ x ∧ x < m + i))]
theorem rot_same (a : Fn_) (lo m hi : Nat) : rot a lo m hi = rot a lo m hi := rfl
/-- turning is an order of the places -/
theorem Pm.rot_aux {L H m : Nat} : ∀ (N i j : Nat) (a : Fn_), i + j ≤ N → 0 < i → 0 < j → i ≤ m → L ≤ m - i → m + j ≤ H → Pm L H a (rot a (m - i) m (m + j))
  | 0, i, j, a, h, h1, _, _, _, _ => by omega
  | N + 1, i, j, a, h, h1, h2, hm, hL, hH => by
    rcases Nat.lt_trichotomy i j with g | g | g
    · rw [← rot_lt a m i j g hm]
      have := Pm.rot_aux (L := L) (H := H) (m := m) N i (j - i) (swr a (m - i) (m + j - i) i) (by omega) h1 (by omega) hm hL (by omega)
      rw [show m + (j - i) = m + j - i by omega] at this
      exact (Pm.swr_ a (by omega) (by omega) (by omega)).trans this
    · subst g
      rw [← rot_eq a m i hm]
      exact Pm.swr_ a (by omega) (by omega) (by omega)
    · rw [← rot_gt a m i j g hm]
      have := Pm.rot_aux (L := L) (H := H) (m := m) N (i - j) j (swr a (m - i) m j) (by omega) (by omega) h2 (by omega) (by omega) hH
      rw [show m - (i - j) = m - i + j by omega] at this
      exact (Pm.swr_ a (by omega) (by omega) (by omega)).trans this
theorem Pm.rot_ {lo m hi : Nat} (a : Fn_) (h1 : lo < m) (h2 : m < hi) : Pm lo hi a (rot a lo m hi) := by
  have := Pm.rot_aux (L := lo) (H := hi) (m := m) (m - lo + (hi - m)) (m - lo) (hi - m) a (Nat.le_refl _) (by omega) (by omega) (by omega) (by omega) (by omega)
  rwa [show m - (m - lo) = lo by omega, show m + (hi - m) = hi by omega] at this
/-- the merge: what the search finds -/
structure Mrg (far : Nat → Int) (lo m hi : Nat) (a : Fn_) : Prop where
  l : Sd far lo m a
  r : Sd far m hi a
  v : ∀ i j, lo ≤ i → i < m → m ≤ j → j < hi → a i < a j
  lm : lo ≤ m
  mh : m ≤ hi
/-- the two halves behind the turning -/
structure Fnd_ (far : Nat → Int) (lo m hi md st en : Nat) (a : Fn_) : Prop where
  e1 : md = (lo + hi) / 2
  e2 : st + en = md + m
  h1 : lo ≤ st ∧ st ≤ m
  h2 : m ≤ en ∧ en ≤ hi
  q1 : lo < st → en < hi → Lt far (a (st - 1)) (a en)
  q2 : m < en → st < m → Lt far (a (en - 1)) (a st)
theorem Sd.le {far : Nat → Int} {lo hi : Nat} {a : Fn_} (h : Sd far lo hi a) {i j : Nat} (h1 : lo ≤ i) (h2 : i ≤ j) (h3 : j < hi) : i = j ∨ Lt far (a i) (a j) := by
  rcases Nat.lt_or_eq_of_le h2 with g | g
  · exact .inr (h i j h1 g h3)
  · exact .inl g
/-- all of the left part of the left one and of the left part of the right one are ahead of the others -/
theorem Fnd_.ahead {far : Nat → Int} {lo m hi md st en : Nat} {a : Fn_} (k : Mrg far lo m hi a) (f : Fnd_ far lo m hi md st en a) {x y : Nat} (hx : (lo ≤ x ∧ x < st) ∨ (m ≤ x ∧ x < en)) (hy : (st ≤ y ∧ y < m) ∨ (en ≤ y ∧ y < hi)) : Lt far (a x) (a y) := by
  have h1 := f.h1; have h2 := f.h2
  rcases hx with ⟨x1, x2⟩ | ⟨x1, x2⟩ <;> rcases hy with ⟨y1, y2⟩ | ⟨y1, y2⟩
  · exact k.l x y x1 (by omega) y2
  · have q := f.q1 (by omega) (by omega)
    have p1 : Lt far (a x) (a en) := by
      rcases k.l.le x1 (show x ≤ st - 1 by omega) (by omega) with g | g
      · rw [g]; exact q
      · exact g.trans q
    rcases k.r.le (show m ≤ en by omega) y1 y2 with g | g
    · rw [← g]; exact p1
    · exact p1.trans g
  · have q := f.q2 (by omega) (by omega)
    have p1 : Lt far (a x) (a st) := by
      rcases k.r.le x1 (show x ≤ en - 1 by omega) (by omega) with g | g
      · rw [g]; exact q
      · exact g.trans q
    rcases k.l.le (show lo ≤ st by omega) y1 y2 with g | g
    · rw [← g]; exact p1
    · exact p1.trans g
  · exact k.r x y x1 (by omega) y2
/-- behind the turning (or none, where it turns nothing): two merges of halves, of which the first is ahead of the second -/
def turned (a : Fn_) (st m en : Nat) : Fn_ := if st < m ∧ m < en then rot a st m en else a
theorem turned_at (a : Fn_) {lo m hi md st en : Nat} {far : Nat → Int} (f : Fnd_ far lo m hi md st en a) (x : Nat) : turned a st m en x = if st ≤ x ∧ x < md then a (x + (m - st)) else if md ≤ x ∧ x < en then a (x - (en - m)) else a x := by
  have h1 := f.h1; have h2 := f.h2; have h3 := f.e2
  unfold turned
  by_cases g : st < m ∧ m < en
  · rw [if_pos g]
    unfold rot
    rw [show st + (en - m) = md by omega]
  · rw [if_neg g]
    by_cases q1 : st ≤ x ∧ x < md
    · rw [if_pos q1]; congr 1; omega
    · rw [if_neg q1]
      by_cases q2 : md ≤ x ∧ x < en
      · rw [if_pos q2]; congr 1; omega
      · rw [if_neg q2]
theorem turned_pm (a : Fn_) {lo m hi md st en : Nat} {far : Nat → Int} (f : Fnd_ far lo m hi md st en a) : Pm lo hi a (turned a st m en) := by
  have h1 := f.h1; have h2 := f.h2
  unfold turned
  by_cases g : st < m ∧ m < en
  · rw [if_pos g]; exact (Pm.rot_ a g.1 g.2).mono h1.1 h2.2
  · rw [if_neg g]; exact Pm.refl _ _ _
theorem turned_left {far : Nat → Int} {lo m hi md st en : Nat} {a : Fn_} (k : Mrg far lo m hi a) (f : Fnd_ far lo m hi md st en a) (hlo : lo < hi) : Mrg far lo st md (turned a st m en) := by
  have h1 := f.h1; have h2 := f.h2; have h3 := f.e2; have h4 := f.e1
  refine ⟨fun i j i1 ij j2 => ?_, fun i j i1 ij j2 => ?_, fun i j i1 i2 j1 j2 => ?_, h1.1, by omega⟩
  · rw [turned_at a f, turned_at a f, if_neg (by omega), if_neg (by omega), if_neg (by omega), if_neg (by omega)]
    exact k.l i j i1 ij (by omega)
  · rw [turned_at a f, turned_at a f, if_pos (by omega), if_pos (by omega)]
    exact k.r _ _ (by omega) (by omega) (by omega)
  · rw [turned_at a f, turned_at a f, if_neg (by omega), if_neg (by omega), if_pos (by omega)]
    exact k.v _ _ i1 (by omega) (by omega) (by omega)
theorem turned_right {far : Nat → Int} {lo m hi md st en : Nat} {a : Fn_} (k : Mrg far lo m hi a) (f : Fnd_ far lo m hi md st en a) (hlo : lo < hi) : Mrg far md en hi (turned a st m en) := by
  have h1 := f.h1; have h2 := f.h2; have h3 := f.e2; have h4 := f.e1
  refine ⟨fun i j i1 ij j2 => ?_, fun i j i1 ij j2 => ?_, fun i j i1 i2 j1 j2 => ?_, by omega, h2.2⟩
  · rw [turned_at a f, turned_at a f, if_neg (by omega), if_pos (by omega), if_neg (by omega), if_pos (by omega)]
    exact k.l _ _ (by omega) (by omega) (by omega)
  · rw [turned_at a f, turned_at a f, if_neg (by omega), if_neg (by omega), if_neg (by omega), if_neg (by omega)]
    exact k.r i j (by omega) ij j2
  · rw [turned_at a f, turned_at a f, if_neg (by omega), if_pos (by omega), if_neg (by omega), if_neg (by omega)]
    exact k.v _ _ (by omega) (by omega) (by omega) j2
/-- any element of the first half is ahead of any of the second -/
theorem turned_ahead {far : Nat → Int} {lo m hi md st en : Nat} {a : Fn_} (k : Mrg far lo m hi a) (f : Fnd_ far lo m hi md st en a) {x y : Nat} (x1 : lo ≤ x) (x2 : x < md) (y1 : md ≤ y) (y2 : y < hi) : Lt far (turned a st m en x) (turned a st m en y) := by
  have h1 := f.h1; have h2 := f.h2; have h3 := f.e2; have h4 := f.e1
  rw [turned_at a f, turned_at a f]
  by_cases q1 : st ≤ x ∧ x < md
  · rw [if_pos q1, if_neg (by omega)]
    by_cases q2 : md ≤ y ∧ y < en
    · rw [if_pos q2]; exact f.ahead k (.inr (by omega)) (.inl (by omega))
    · rw [if_neg q2]; exact f.ahead k (.inr (by omega)) (.inr (by omega))
  · rw [if_neg q1, if_neg (by omega), if_neg (by omega)]
    by_cases q2 : md ≤ y ∧ y < en
    · rw [if_pos q2]; exact f.ahead k (.inl (by omega)) (.inl (by omega))
    · rw [if_neg q2]; exact f.ahead k (.inl (by omega)) (.inr (by omega))
/-- the halves merged, all is merged -/
theorem merged {far : Nat → Int} {lo md hi : Nat} {a b : Fn_} (h1 : lo ≤ md) (h2 : md ≤ hi) (hb1 : Sd far lo md b) (hb2 : Sd far md hi b) (ha : ∀ x y, lo ≤ x → x < md → md ≤ y → y < hi → Lt far (b x) (b y)) : Sd far lo hi b := by
  intro i j i1 ij j2
  by_cases g1 : j < md
  · exact hb1 i j i1 ij g1
  · by_cases g2 : md ≤ i
    · exact hb2 i j g2 ij j2
    · exact ha i j i1 (by omega) (by omega) j2
theorem ahead_pm {far : Nat → Int} {lo md hi : Nat} {a b : Fn_} {c : Fn_} (h1 : Pm lo md a b) (h2 : Pm md hi b c) (ha : ∀ x y, lo ≤ x → x < md → md ≤ y → y < hi → Lt far (a x) (a y)) : ∀ x y, lo ≤ x → x < md → md ≤ y → y < hi → Lt far (c x) (c y) := by
  intro x y x1 x2 y1 y2
  rw [h2.out (.inl x2)]
  obtain ⟨k, k1, k2, e⟩ := h1.from_ x1 x2
  obtain ⟨l, l1, l2, e2⟩ := h2.from_ y1 y2
  rw [e, e2, h1.out (.inr l1)]
  exact ha k l k1 k2 l1 l2
theorem Sd.one {far : Nat → Int} {lo hi : Nat} {a : Fn_} (h : hi ≤ lo + 1) : Sd far lo hi a := fun i j i1 ij j2 => by omega
theorem Sd.of_mrg_l {far : Nat → Int} {lo hi m : Nat} {a : Fn_} (k : Mrg far lo m hi a) (h : lo = m) : Sd far lo hi a := by subst h; exact k.r
theorem Sd.of_mrg_r {far : Nat → Int} {lo hi m : Nat} {a : Fn_} (k : Mrg far lo m hi a) (h : m = hi) : Sd far lo hi a := by subst h; exact k.l
theorem Sd.pm_out {far : Nat → Int} {lo hi l h : Nat} {a b : Fn_} (k : Sd far l h a) (p : Pm lo hi a b) (ho : h ≤ lo ∨ hi ≤ l) : Sd far l h b := fun i j i1 ij j2 => by
  rw [p.out (by omega), p.out (by omega)]; exact k i j i1 ij j2
/-- the element at m, moved down to k -/
def shD (a : Fn_) (m k : Nat) : Fn_ := fun x => if k < x ∧ x ≤ m then a (x - 1) else if x = k then a m else a x
theorem shD_m (a : Fn_) (m : Nat) : shD a m m = a := by
  funext x; unfold shD; rw [if_neg (by omega)]
  by_cases e : x = m
  · rw [if_pos e, e]
  · rw [if_neg e]
theorem shD_step (a : Fn_) (m k : Nat) (h : k < m) : swp (shD a m (k + 1)) (k + 1) k = shD a m k := by
  funext x
  unfold swp shD
  by_cases e1 : x = k + 1
  · subst e1; rw [if_pos rfl, if_neg (by omega), if_neg (by omega), if_pos (by omega)]; rfl
  · rw [if_neg e1]
    by_cases e2 : x = k
    · subst e2; rw [if_pos rfl, if_neg (by omega), if_pos rfl, if_neg (by omega), if_pos rfl]
    · rw [if_neg e2]
      by_cases g : k + 1 < x ∧ x ≤ m
      · rw [if_pos g, if_pos (by omega)]
      · rw [if_neg g, if_neg (by omega), if_neg (by omega), if_neg (by omega)]
theorem shD_pm (a : Fn_) {lo m : Nat} : ∀ (d k : Nat), k + d = m → lo ≤ k → Pm lo (m + 1) a (shD a m k)
  | 0, k, h, hk => by obtain rfl : k = m := by omega
                      rw [shD_m]; exact Pm.refl _ _ _
  | d + 1, k, h, hk => by
    rw [← shD_step a m k (by omega)]
    exact (shD_pm a d (k + 1) (by omega) (by omega)).trans (Pm.swp_ _ (by omega) (by omega) (by omega) (by omega))
theorem shD_sd {far : Nat → Int} {lo m k : Nat} {a : Fn_} (h : Sd far lo m a) (h1 : lo ≤ k) (h2 : k ≤ m) (h3 : ∀ q, lo ≤ q → q < k → Lt far (a q) (a m)) (h4 : ∀ q, k ≤ q → q < m → Lt far (a m) (a q)) : Sd far lo (m + 1) (shD a m k) := by
  intro i j i1 ij j2
  unfold shD
  by_cases g1 : k < j ∧ j ≤ m
  · rw [if_pos g1]
    by_cases g2 : k < i ∧ i ≤ m
    · rw [if_pos g2]; exact h _ _ (by omega) (by omega) (by omega)
    · rw [if_neg g2]
      by_cases g3 : i = k
      · rw [if_pos g3]; exact h4 _ (by omega) (by omega)
      · rw [if_neg g3]; exact h _ _ i1 (by omega) (by omega)
  · rw [if_neg g1]
    by_cases g3 : j = k
    · rw [if_pos g3, if_neg (by omega), if_neg (by omega)]; exact h3 _ i1 (by omega)
    · rw [if_neg g3, if_neg (by omega), if_neg (by omega)]; exact h i j i1 ij (by omega)
/-- the element at lo, moved up to k -/
def shU (a : Fn_) (lo k : Nat) : Fn_ := fun x => if lo ≤ x ∧ x < k then a (x + 1) else if x = k then a lo else a x
theorem shU_lo (a : Fn_) (lo : Nat) : shU a lo lo = a := by
  funext x; unfold shU; rw [if_neg (by omega)]
  by_cases e : x = lo
  · rw [if_pos e, e]
  · rw [if_neg e]
theorem shU_step (a : Fn_) (lo k : Nat) (h : lo ≤ k) : swp (shU a lo k) k (k + 1) = shU a lo (k + 1) := by
  funext x
  unfold swp shU
  by_cases e1 : x = k
  · subst e1; rw [if_pos rfl, if_neg (by omega), if_neg (by omega), if_pos (by omega)]
  · rw [if_neg e1]
    by_cases e2 : x = k + 1
    · subst e2; rw [if_pos rfl, if_neg (by omega), if_pos rfl, if_neg (by omega), if_pos rfl]
    · rw [if_neg e2]
      by_cases g : lo ≤ x ∧ x < k
      · rw [if_pos g, if_pos (by omega)]
      · rw [if_neg g, if_neg (by omega), if_neg (by omega), if_neg (by omega)]
theorem shU_pm (a : Fn_) {lo hi : Nat} : ∀ (d k : Nat), k = lo + d → k < hi → Pm lo hi a (shU a lo k)
  | 0, k, h, hk => by obtain rfl : k = lo := by omega
                      rw [shU_lo]; exact Pm.refl _ _ _
  | d + 1, k, h, hk => by
    obtain ⟨k', rfl⟩ : ∃ k', k = k' + 1 := ⟨k - 1, by omega⟩
    rw [← shU_step a lo k' (by omega)]
    exact (shU_pm a d k' (by omega) (by omega)).trans (Pm.swp_ _ (by omega) (by omega) (by omega) (by omega))
theorem shU_sd {far : Nat → Int} {lo hi k : Nat} {a : Fn_} (h : Sd far (lo + 1) hi a) (h1 : lo ≤ k) (h2 : k < hi) (h3 : ∀ q, lo + 1 ≤ q → q ≤ k → Lt far (a q) (a lo)) (h4 : ∀ q, k < q → q < hi → Lt far (a lo) (a q)) : Sd far lo hi (shU a lo k) := by
  intro i j i1 ij j2
  unfold shU
  by_cases g1 : lo ≤ j ∧ j < k
  · rw [if_pos g1, if_pos (by omega)]; exact h _ _ (by omega) (by omega) (by omega)
  · rw [if_neg g1]
    by_cases g2 : j = k
    · rw [if_pos g2, if_pos (by omega)]; exact h3 _ (by omega) (by omega)
    · rw [if_neg g2]
      by_cases g3 : lo ≤ i ∧ i < k
      · rw [if_pos g3]; exact h _ _ (by omega) (by omega) (by omega)
      · rw [if_neg g3]
        by_cases g4 : i = k
        · rw [if_pos g4]; exact h4 _ (by omega) (by omega)
        · rw [if_neg g4]; exact h _ _ (by omega) ij j2
theorem Lt.of_not {far : Nat → Int} {x y : Nat} (h : ¬ far y < far x) (hv : x < y) : Lt far x y := by unfold Lt; omega
theorem Lt.of_lt {far : Nat → Int} {x y : Nat} (h : far x < far y) : Lt far x y := .inl h
theorem bs1_lo {far : Nat → Int} {lo hi h q : Nat} {a : Fn_} (k : Mrg far lo (lo + 1) hi a) (hh : far (a h) < far (a lo)) (q1 : lo + 1 ≤ q) (q2 : q ≤ h) (q3 : h < hi) : Lt far (a q) (a lo) := by
  rcases k.r.le q1 q2 q3 with g | g
  · rw [g]; exact .of_lt hh
  · exact g.trans (.of_lt hh)
theorem bs1_hi {far : Nat → Int} {lo hi h q : Nat} {a : Fn_} (k : Mrg far lo (lo + 1) hi a) (hh : ¬ far (a h) < far (a lo)) (q1 : lo + 1 ≤ h) (q2 : h ≤ q) (q3 : q < hi) : Lt far (a lo) (a q) := by
  have h0 : Lt far (a lo) (a h) := .of_not hh (k.v lo h (Nat.le_refl _) (by omega) q1 (by omega))
  rcases k.r.le q1 q2 q3 with g | g
  · rw [← g]; exact h0
  · exact h0.trans g
theorem bs2_lo {far : Nat → Int} {lo m h q : Nat} {a : Fn_} (k : Mrg far lo m (m + 1) a) (hh : ¬ far (a m) < far (a h)) (q1 : lo ≤ q) (q2 : q ≤ h) (q3 : h < m) : Lt far (a q) (a m) := by
  have h0 : Lt far (a h) (a m) := .of_not hh (k.v h m (by omega) q3 (Nat.le_refl _) (by omega))
  rcases k.l.le q1 q2 q3 with g | g
  · rw [g]; exact h0
  · exact g.trans h0
theorem bs2_hi {far : Nat → Int} {lo m h q : Nat} {a : Fn_} (k : Mrg far lo m (m + 1) a) (hh : far (a m) < far (a h)) (q1 : lo ≤ h) (q2 : h ≤ q) (q3 : q < m) : Lt far (a m) (a q) := by
  have h0 : Lt far (a m) (a h) := .of_lt hh
  rcases k.l.le q1 q2 q3 with g | g
  · rw [← g]; exact h0
  · exact h0.trans g
theorem bs3_lo {far : Nat → Int} {lo m hi p c q : Nat} {a : Fn_} (k : Mrg far lo m hi a) (hh : ¬ far (a (p - c)) < far (a c)) (q1 : lo ≤ q) (q2 : q ≤ c) (q3 : c < m) (p1 : m ≤ p - c) (p2 : p - q < hi) : Lt far (a q) (a (p - q)) := by
  have h0 : Lt far (a c) (a (p - c)) := .of_not hh (k.v c (p - c) (by omega) q3 p1 (by omega))
  have h1 : Lt far (a q) (a (p - c)) := by
    rcases k.l.le q1 q2 q3 with g | g
    · rw [g]; exact h0
    · exact g.trans h0
  rcases k.r.le p1 (show p - c ≤ p - q by omega) p2 with g | g
  · rw [← g]; exact h1
  · exact h1.trans g
theorem bs3_hi {far : Nat → Int} {lo m hi p c q : Nat} {a : Fn_} (k : Mrg far lo m hi a) (hh : far (a (p - c)) < far (a c)) (q1 : lo ≤ c) (q2 : c ≤ q) (q3 : q < m) (p1 : m ≤ p - q) (p2 : p - c < hi) : Lt far (a (p - q)) (a q) := by
  have h0 : Lt far (a (p - c)) (a c) := .of_lt hh
  have h1 : Lt far (a (p - q)) (a c) := by
    rcases k.r.le p1 (show p - q ≤ p - c by omega) p2 with g | g
    · rw [g]; exact h0
    · exact g.trans h0
  rcases k.l.le q1 q2 q3 with g | g
  · rw [g] at h1; exact h1
  · exact h1.trans g
/-- what the search gives -/
theorem bs3_end {far : Nat → Int} {lo m hi md st s0 r0 : Nat} {a : Fn_} (h1 : md = (lo + hi) / 2) (hlm : lo < m) (hmh : m < hi) (hs0 : (m > md → s0 = md + m - hi ∧ r0 = md) ∧ (¬ m > md → s0 = lo ∧ r0 = m)) (g1 : s0 ≤ st) (g2 : st ≤ r0)
    (f1 : ∀ q, s0 ≤ q → q < st → Lt far (a q) (a (md + m - 1 - q))) (f2 : ∀ q, st ≤ q → q < r0 → Lt far (a (md + m - 1 - q)) (a q)) : Fnd_ far lo m hi md st (md + m - st) a := by
  have hb : lo ≤ s0 ∧ r0 ≤ m ∧ m ≤ md + m - r0 ∧ md + m - s0 ≤ hi ∧ (s0 = lo ∨ md + m - s0 = hi) ∧ (r0 = m ∨ md + m - r0 = m) := by
    by_cases g : m > md
    · obtain ⟨e1, e2⟩ := hs0.1 g; omega
    · obtain ⟨e1, e2⟩ := hs0.2 g; omega
  refine ⟨h1, by omega, by omega, by omega, fun q1 q2 => ?_, fun q1 q2 => ?_⟩
  · have := f1 (st - 1) (by omega) (by omega)
    rwa [show md + m - 1 - (st - 1) = md + m - st by omega] at this
  · have := f2 st (Nat.le_refl _) (by omega)
    rwa [show md + m - 1 - st = md + m - st - 1 by omega] at this
/-- the stable order: one only -/
theorem order_one {far : Nat → Int} {n : Nat} {a b : Fn_} (ha : Sd far 0 n a) (hb : Sd far 0 n b) (pa : Pm 0 n id a) (pb : Pm 0 n id b) : ∀ j, j < n → a j = b j := by
  have surj : ∀ {c : Fn_}, Pm 0 n id c → ∀ v, v < n → ∃ j, j < n ∧ c j = v := by
    intro c ⟨s, k1, k2, k3, k4⟩ v hv
    -- an injection of [0, n) into itself is onto
    have hin : ∀ m : Nat, ∀ l : List Nat, l.Nodup → l.length = m → (∀ x ∈ l, x < m) → ∀ v, v < m → v ∈ l := by
      intro m l hd hl hx v hv
      apply Classical.byContradiction
      intro hn
      have h2 : (v :: l).Nodup := List.nodup_cons.2 ⟨hn, hd⟩
      have h3 : (v :: l).length ≤ (List.range m).length := by
        have aux : ∀ (p q : List Nat), p.Nodup → (∀ x ∈ p, x ∈ q) → p.length ≤ q.length := by
          intro p
          induction p with
          | nil => intro q _ _; exact Nat.zero_le _
          | cons x p ih =>
            intro q hd hs
            have hxq := hs x (List.mem_cons_self ..)
            have hn := List.nodup_cons.1 hd
            have := ih (q.erase x) hn.2 (fun y hy => (List.mem_erase_of_ne (fun e : y = x => hn.1 (by rw [← e]; exact hy))).2 (hs y (List.mem_cons_of_mem _ hy)))
            rw [List.length_erase_of_mem hxq] at this
            have hp : 0 < q.length := List.length_pos_of_mem hxq
            simp only [List.length_cons]; omega
        refine aux _ _ h2 (fun x hx' => ?_)
        rcases List.mem_cons.1 hx' with e | e
        · rw [e]; exact List.mem_range.2 hv
        · exact List.mem_range.2 (hx x e)
      rw [List.length_cons, hl, List.length_range] at h3; omega
    have hl := hin n ((List.range n).map s) ?_ (by simp) ?_ v hv
    · obtain ⟨j, hj, e⟩ := List.mem_map.1 hl
      exact ⟨j, List.mem_range.1 hj, by rw [k4]; exact e⟩
    · rw [List.nodup_iff_pairwise_ne, List.pairwise_map]
      exact (List.nodup_iff_pairwise_ne.1 List.nodup_range).imp (fun h e => h (k1 _ _ e))
    · intro x hx
      obtain ⟨j, hj, e⟩ := List.mem_map.1 hx
      rw [← e]; exact (k3 j (Nat.zero_le _) (List.mem_range.1 hj)).2
  have bd : ∀ {c : Fn_}, Pm 0 n id c → ∀ j, j < n → c j < n := by
    intro c ⟨s, k1, k2, k3, k4⟩ j hj; rw [k4]; exact (k3 j (Nat.zero_le _) hj).2
  -- by the first place at which they part
  intro j
  induction j using Nat.strongRecOn with
  | ind j ih =>
    intro hj
    obtain ⟨x, hx, ex⟩ := surj pb (a j) (bd pa j hj)
    obtain ⟨y, hy, ey⟩ := surj pa (b j) (bd pb j hj)
    rcases Nat.lt_trichotomy x j with g | g | g
    · have := ih x g hx
      rw [← this] at ex
      exact absurd (show Lt far (a x) (a j) from ha x j (Nat.zero_le _) g hj) (fun h => by rw [ex] at h; exact h.irr)
    · rw [← ex, g]
    · have h1 : Lt far (b j) (a j) := by rw [← ex]; exact hb j x (Nat.zero_le _) g hx
      rcases Nat.lt_trichotomy y j with q | q | q
      · have := ih y q hy
        rw [ey] at this
        exact absurd (hb y j (Nat.zero_le _) q hj) (fun h => by rw [← this] at h; exact h.irr)
      · rw [← ey, q]
      · have h2 : Lt far (a j) (b j) := by rw [← ey]; exact ha j y (Nat.zero_le _) q hy
        exact (h1.asymm h2).elim
end Go.Proofs.Ytoiccljmdplfgaa.So
