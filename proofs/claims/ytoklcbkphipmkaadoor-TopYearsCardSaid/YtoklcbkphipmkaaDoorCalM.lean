/-
  THE CALENDAR, IN PLAIN LEAN: which years are leap years, how long months are, the number of a day, and the date of a day; no program is in sight.
-/
namespace Go.Proofs.YtoklcbkphipmkaaDoor.Cal
set_option linter.unusedVariables false
theorem tm (y n : Int) : y.tmod n = 0 ↔ y % n = 0 := by rw [← Int.dvd_iff_emod_eq_zero, Int.dvd_iff_tmod_eq_zero]
def leap (y : Int) : Bool := decide ((y % 4 = 0 ∧ y % 100 ≠ 0) ∨ y % 400 = 0)
def mlen (y m : Int) : Int := if m = 2 then (if leap y = true then 29 else 28) else if m = 4 ∨ m = 6 ∨ m = 9 ∨ m = 11 then 30 else 31
def okYM (y m : Int) : Bool := decide (1 ≤ y ∧ y ≤ 9999 ∧ 1 ≤ m ∧ m ≤ 12)
def okD (y m d : Int) : Bool := decide (1 ≤ y ∧ y ≤ 9999 ∧ 1 ≤ m ∧ m ≤ 12 ∧ 1 ≤ d ∧ d ≤ mlen y m)
def first (y : Int) : Int := 365 * (y - 1) + (y - 1) / 4 - (y - 1) / 100 + (y - 1) / 400 - 719162
/-- days of the year ahead of a month -/
def cum (y m : Int) : Int :=
  if m ≤ 1 then 0 else if m = 2 then 31 else
  (if leap y = true then 1 else 0) + (if m = 3 then 59 else if m = 4 then 90 else if m = 5 then 120 else if m = 6 then 151 else if m = 7 then 181 else if m = 8 then 212 else if m = 9 then 243 else if m = 10 then 273 else if m = 11 then 304 else if m = 12 then 334 else 365)
def num (y m d : Int) : Int := first y + cum y m + d - 1

theorem leap_iff (y : Int) : leap y = true ↔ ((y % 4 = 0 ∧ y % 100 ≠ 0) ∨ y % 400 = 0) := by unfold leap; exact decide_eq_true_iff
theorem mlen_bd (y m : Int) : 28 ≤ mlen y m ∧ mlen y m ≤ 31 := by unfold mlen; split <;> (try split) <;> omega
theorem cum_succ (y m : Int) (h1 : 1 ≤ m) (h2 : m ≤ 12) : cum y (m + 1) = cum y m + mlen y m := by
  have : m = 1 ∨ m = 2 ∨ m = 3 ∨ m = 4 ∨ m = 5 ∨ m = 6 ∨ m = 7 ∨ m = 8 ∨ m = 9 ∨ m = 10 ∨ m = 11 ∨ m = 12 := by omega
  rcases this with h | h | h | h | h | h | h | h | h | h | h | h <;> subst h <;> cases hl : leap y <;> simp [cum, mlen, hl]
theorem cum_13 (y : Int) : cum y 13 = if leap y = true then 366 else 365 := by
  cases hl : leap y <;> simp [cum, hl]
theorem cum_bd (y m : Int) (h1 : 1 ≤ m) (h2 : m ≤ 13) : 0 ≤ cum y m ∧ cum y m ≤ 366 := by
  have : m = 1 ∨ m = 2 ∨ m = 3 ∨ m = 4 ∨ m = 5 ∨ m = 6 ∨ m = 7 ∨ m = 8 ∨ m = 9 ∨ m = 10 ∨ m = 11 ∨ m = 12 ∨ m = 13 := by omega
  rcases this with h | h | h | h | h | h | h | h | h | h | h | h | h <;> subst h <;> cases hl : leap y <;> simp [cum, hl]
theorem first_succ (y : Int) : first (y + 1) = first y + if leap y = true then 366 else 365 := by
  unfold first
  by_cases h : leap y = true
  · rw [if_pos h]; rw [leap_iff] at h; omega
  · rw [if_neg h]; rw [leap_iff] at h; omega
theorem first_mono (a b : Int) (h : a ≤ b) : first a + 365 * (b - a) ≤ first b := by unfold first; omega
/-- the program's own formula -/
def marchY (y m : Int) : Int := if m ≤ 2 then y - 1 else y
def marchM (m : Int) : Int := if m ≤ 2 then m + 9 else m - 3
theorem num_march (y m d : Int) (h1 : 1 ≤ m) (h2 : m ≤ 12) :
    num y m d = 365 * marchY y m + marchY y m / 4 - marchY y m / 100 + marchY y m / 400 + (153 * marchM m + 2) / 5 + d - 1 - 719468 := by
  have : m = 1 ∨ m = 2 ∨ m = 3 ∨ m = 4 ∨ m = 5 ∨ m = 6 ∨ m = 7 ∨ m = 8 ∨ m = 9 ∨ m = 10 ∨ m = 11 ∨ m = 12 := by omega
  have hs := first_succ y
  unfold first at hs
  unfold num first marchY marchM cum
  by_cases hl : leap y = true
  · rw [if_pos hl] at hs
    rcases this with h | h | h | h | h | h | h | h | h | h | h | h <;> subst h <;> simp [hl] <;> omega
  · rw [if_neg hl] at hs
    rcases this with h | h | h | h | h | h | h | h | h | h | h | h <;> subst h <;> simp [hl] <;> omega
theorem four_hundred (r : Int) (h0 : 0 ≤ r) (h1 : r < 146097) :
    ∃ c e j t : Int, 0 ≤ c ∧ c ≤ 3 ∧ 0 ≤ e ∧ e ≤ 24 ∧ 0 ≤ j ∧ j ≤ 3 ∧ 0 ≤ t ∧ t ≤ 365 ∧ (t = 365 → j = 3 ∧ (e ≠ 24 ∨ c = 3)) ∧ r = 36524 * c + 1461 * e + 365 * j + t := by
  have hc : ∃ c r2 : Int, 0 ≤ c ∧ c ≤ 3 ∧ r = 36524 * c + r2 ∧ 0 ≤ r2 ∧ r2 ≤ 36524 ∧ (r2 = 36524 → c = 3) := by
    by_cases h : r = 146096
    · exact ⟨3, 36524, by omega, by omega, by omega, by omega, by omega, by omega⟩
    · exact ⟨r / 36524, r % 36524, by omega, by omega, by omega, by omega, by omega, by omega⟩
  obtain ⟨c, r2, hc0, hc1, hr, h2, h3, h4⟩ := hc
  have he : ∃ e r3 : Int, 0 ≤ e ∧ e ≤ 24 ∧ r2 = 1461 * e + r3 ∧ 0 ≤ r3 ∧ r3 ≤ 1460 ∧ (r3 = 1460 → e ≠ 24 ∨ c = 3) := ⟨r2 / 1461, r2 % 1461, by omega, by omega, by omega, by omega, by omega, by omega⟩
  obtain ⟨e, r3, he0, he1, hr2, h5, h6, h7⟩ := he
  by_cases hj : r3 < 1460
  · exact ⟨c, e, r3 / 365, r3 % 365, by omega, by omega, by omega, by omega, by omega, by omega, by omega, by omega, by omega, by omega⟩
  · exact ⟨c, e, 3, 365, by omega, by omega, by omega, by omega, by omega, by omega, by omega, by omega, by omega, by omega⟩
theorem div_lem (c e j : Int) (hc0 : 0 ≤ c) (hc1 : c ≤ 3) (he0 : 0 ≤ e) (he1 : e ≤ 24) (hj0 : 0 ≤ j) (hj1 : j ≤ 3) :
    (100 * c + 4 * e + j) / 4 = 25 * c + e ∧ (100 * c + 4 * e + j) / 100 = c := by omega
theorem k2_lem (c e j t : Int) (hc0 : 0 ≤ c) (hc1 : c ≤ 3) (he0 : 0 ≤ e) (he1 : e ≤ 24) (hj0 : 0 ≤ j) (hj1 : j ≤ 3) (ht0 : 0 ≤ t) (ht1 : t ≤ 365) (hl : t = 365 → j = 3 ∧ (e ≠ 24 ∨ c = 3)) :
    (36524 * c + 1461 * e + 365 * j + t) / 36524 - (36524 * c + 1461 * e + 365 * j + t) / 146096 = c := by
  obtain ⟨q, hq⟩ : ∃ q, q = 1461 * e + 365 * j + t := ⟨_, rfl⟩
  have h1 : (0 ≤ q ∧ q ≤ 36523) ∨ (q = 36524 ∧ c = 3) := by
    by_cases h : t = 365
    · have := hl h; omega
    · omega
  have e2 : 36524 * c + 1461 * e + 365 * j + t = 36524 * c + q := by omega
  rw [e2]
  clear hq e2 hl
  omega
theorem delta_lem (c e j t : Int) (hc0 : 0 ≤ c) (hc1 : c ≤ 3) (he0 : 0 ≤ e) (he1 : e ≤ 24) (hj0 : 0 ≤ j) (hj1 : j ≤ 3) (ht0 : 0 ≤ t) (ht1 : t ≤ 365) (hl : t = 365 → j = 3) :
    ∃ δ : Int, (36524 * c + 1461 * e + 365 * j + t) / 1460 = 25 * c + e + δ ∧ 0 ≤ t - δ ∧ t - δ ≤ 364 := by
  by_cases hd : 365 * j + (24 * c + e) + t < 1460
  · exact ⟨0, by omega, by omega, by omega⟩
  · exact ⟨1, by omega, by omega, by omega⟩
theorem y_lem (c e j t d : Int) (ht0 : 0 ≤ t - d) (ht1 : t - d ≤ 364) : (36524 * c + 1461 * e + 365 * j + t - (25 * c + e + d) + c) / 365 = 100 * c + 4 * e + j := by omega
theorem l_lem (c e : Int) (hc0 : 0 ≤ c) (hc1 : c ≤ 3) (he0 : 0 ≤ e) (he1 : e ≤ 24) (h2 : e ≠ 24 ∨ c = 3) : (100 * c + 4 * e + 3) % 4 = 3 ∧ ((100 * c + 4 * e + 3) % 100 ≠ 99 ∨ 100 * c + 4 * e + 3 = 399) := by omega
theorem year_of (r : Int) (h0 : 0 ≤ r) (h1 : r < 146097) :
    ∃ Y t : Int, (r - r / 1460 + r / 36524 - r / 146096) / 365 = Y ∧ 0 ≤ Y ∧ Y ≤ 399 ∧ r = 365 * Y + Y / 4 - Y / 100 + t ∧ 0 ≤ t ∧ t ≤ 365 ∧ (t = 365 → Y % 4 = 3 ∧ (Y % 100 ≠ 99 ∨ Y = 399)) := by
  obtain ⟨c, e, j, t, hc0, hc1, he0, he1, hj0, hj1, ht0, ht1, hl, rfl⟩ := four_hundred r h0 h1
  obtain ⟨d4, d100⟩ := div_lem c e j hc0 hc1 he0 he1 hj0 hj1
  have k2 := k2_lem c e j t hc0 hc1 he0 he1 hj0 hj1 ht0 ht1 hl
  obtain ⟨δ, hk, hd0, hd1⟩ := delta_lem c e j t hc0 hc1 he0 he1 hj0 hj1 ht0 ht1 (fun h => (hl h).1)
  have hy := y_lem c e j t δ hd0 hd1
  refine ⟨100 * c + 4 * e + j, t, ?_, by clear hl k2 hk hy d4 d100; omega, by clear hl k2 hk hy d4 d100; omega, ?_, ht0, ht1, ?_⟩
  · rw [← hy, ← hk, Int.add_sub_assoc, k2]
  · rw [d4, d100]; clear hl k2 hk hy d4 d100; omega
  · intro h
    obtain ⟨rfl, h2⟩ := hl h
    exact l_lem c e hc0 hc1 he0 he1 h2

/-! the date of a day, by the program's formula -/
def oR (n : Int) : Int := (n + 719468) % 146097
def oG (n : Int) : Int := (n + 719468) / 146097
def oY (n : Int) : Int := (oR n - oR n / 1460 + oR n / 36524 - oR n / 146096) / 365
def oT (n : Int) : Int := oR n - (365 * oY n + oY n / 4 - oY n / 100)
def oM (n : Int) : Int := (5 * oT n + 2) / 153
def dayD (n : Int) : Int := oT n - (153 * oM n + 2) / 5 + 1
def dayM (n : Int) : Int := if oM n + 3 > 12 then oM n + 3 - 12 else oM n + 3
def dayY (n : Int) : Int := if oM n + 3 > 12 then oY n + oG n * 400 + 1 else oY n + oG n * 400

theorem oR_bd (n : Int) : 0 ≤ oR n ∧ oR n < 146097 := by unfold oR; omega
theorem oY_spec (n : Int) : 0 ≤ oY n ∧ oY n ≤ 399 ∧ oR n = 365 * oY n + oY n / 4 - oY n / 100 + oT n ∧ 0 ≤ oT n ∧ oT n ≤ 365 ∧ (oT n = 365 → oY n % 4 = 3 ∧ (oY n % 100 ≠ 99 ∨ oY n = 399)) := by
  obtain ⟨Y, t, hY, h1, h2, h3, h4, h5, h6⟩ := year_of (oR n) (oR_bd n).1 (oR_bd n).2
  have e : oY n = Y := hY
  have et : oT n = t := by unfold oT; rw [e]; omega
  rw [e, et]
  exact ⟨h1, h2, h3, h4, h5, h6⟩
theorem mlen_of (y m : Int) (h1 : 1 ≤ m) (h2 : m ≤ 12) (h : m ≠ 2) : mlen y m = 30 + (if m = 4 ∨ m = 6 ∨ m = 9 ∨ m = 11 then 0 else 1) := by
  unfold mlen; rw [if_neg h]; split <;> simp
theorem month_lem (t k : Int) (h0 : 0 ≤ t) (h1 : t ≤ 365) (hk : k = (5 * t + 2) / 153) :
    0 ≤ k ∧ k ≤ 11 ∧ 1 ≤ t - (153 * k + 2) / 5 + 1 ∧ (k = 11 → t - (153 * k + 2) / 5 + 1 = t - 336) ∧ (k ≠ 11 → t - (153 * k + 2) / 5 + 1 ≤ (if k = 1 ∨ k = 3 ∨ k = 6 ∨ k = 8 then 30 else 31)) := by
  have : k = 0 ∨ k = 1 ∨ k = 2 ∨ k = 3 ∨ k = 4 ∨ k = 5 ∨ k = 6 ∨ k = 7 ∨ k = 8 ∨ k = 9 ∨ k = 10 ∨ k = 11 := by omega
  rcases this with h | h | h | h | h | h | h | h | h | h | h | h <;> rw [h] at hk ⊢ <;> simp <;> omega
theorem day_ok (n : Int) (h0 : -719162 ≤ n) (h1 : n ≤ 2932896) : okD (dayY n) (dayM n) (dayD n) = true := by
  obtain ⟨y0, y1, hr, t0, t1, hl⟩ := oY_spec n
  obtain ⟨k0, k1, d1, d11, dn⟩ := month_lem (oT n) (oM n) t0 t1 rfl
  have hG : 0 ≤ oG n ∧ oG n ≤ 24 ∧ oG n * 146097 + oR n = n + 719468 := by unfold oG oR; omega
  have hy : 1 ≤ dayY n ∧ dayY n ≤ 9999 := by
    have hm : oM n = (5 * oT n + 2) / 153 := rfl
    clear hl d11 dn d1
    unfold dayY
    split <;> omega
  have hm : 1 ≤ dayM n ∧ dayM n ≤ 12 := by unfold dayM; split <;> omega
  unfold okD
  rw [decide_eq_true_iff]
  refine ⟨hy.1, hy.2, hm.1, hm.2, d1, ?_⟩
  show oT n - (153 * oM n + 2) / 5 + 1 ≤ _
  by_cases h11 : oM n = 11
  · have e2 : dayM n = 2 := by unfold dayM; rw [if_pos (by omega)]; omega
    rw [d11 h11, e2]
    by_cases h365 : oT n = 365
    · have hlp : leap (dayY n) = true := by
        rw [leap_iff]; unfold dayY; rw [if_pos (by omega)]
        have := hl h365
        omega
      unfold mlen
      rw [if_pos rfl, if_pos hlp]; omega
    · have := (mlen_bd (dayY n) 2).1; omega
  · have hd := dn h11
    have hm2 : dayM n ≠ 2 := by unfold dayM; split <;> omega
    rw [mlen_of _ _ hm.1 hm.2 hm2]
    refine Int.le_trans hd ?_
    clear hd dn d11 hl hr
    unfold dayM
    by_cases h3 : oM n + 3 > 12
    · rw [if_pos h3]
      rw [if_neg (by omega), if_neg (by omega)]; omega
    · rw [if_neg h3]
      by_cases hk : oM n = 1 ∨ oM n = 3 ∨ oM n = 6 ∨ oM n = 8
      · rw [if_pos hk, if_pos (by omega)]; omega
      · rw [if_neg hk, if_neg (by omega)]; omega
theorem day_num (n : Int) : num (dayY n) (dayM n) (dayD n) = n := by
  obtain ⟨y0, y1, hr, t0, t1, hl⟩ := oY_spec n
  obtain ⟨k0, k1, d1, d11, dn⟩ := month_lem (oT n) (oM n) t0 t1 rfl
  have hG : oG n * 146097 + oR n = n + 719468 := by unfold oG oR; omega
  clear hl d11 dn
  have hm : 1 ≤ dayM n ∧ dayM n ≤ 12 := by unfold dayM; split <;> omega
  rw [num_march _ _ _ hm.1 hm.2]
  have e1 : marchY (dayY n) (dayM n) = oY n + oG n * 400 := by unfold marchY dayM dayY; split <;> split <;> omega
  have e2 : marchM (dayM n) = oM n := by unfold marchM dayM; split <;> split <;> omega
  have e3 : dayD n = oT n - (153 * oM n + 2) / 5 + 1 := rfl
  rw [e1, e2, e3]
  omega
theorem cum_le (y m : Int) (k : Nat) : 1 ≤ m → m + k ≤ 13 → cum y m ≤ cum y (m + k) := by
  induction k with
  | zero => intro _ _; simp
  | succ k ih =>
    intro h1 h2
    have h := ih h1 (by omega)
    have hs := cum_succ y (m + k) (by omega) (by omega)
    have hb := mlen_bd y (m + k)
    have e : m + ((k + 1 : Nat) : Int) = m + k + 1 := by omega
    rw [e, hs]; omega
theorem cum_mono (y a b : Int) (h1 : 1 ≤ a) (h2 : a ≤ b) (h3 : b ≤ 13) : cum y a ≤ cum y b := by
  have h := cum_le y a (b - a).toNat h1 (by omega)
  have e : a + ((b - a).toNat : Int) = b := by omega
  rwa [e] at h
theorem num_bd (y m d : Int) (h : okD y m d = true) : first y ≤ num y m d ∧ num y m d < first (y + 1) := by
  unfold okD at h; rw [decide_eq_true_iff] at h
  obtain ⟨h1, h2, h3, h4, h5, h6⟩ := h
  have hc := cum_bd y m h3 (by omega)
  have hs := cum_succ y m h3 h4
  have hm := cum_mono y (m + 1) 13 (by omega) (by omega) (by omega)
  rw [cum_13] at hm
  rw [first_succ]; unfold num
  omega
theorem num_inj {y m d y' m' d' : Int} (h : okD y m d = true) (h' : okD y' m' d' = true) (he : num y m d = num y' m' d') : y = y' ∧ m = m' ∧ d = d' := by
  have b := num_bd y m d h
  have b' := num_bd y' m' d' h'
  have hy : y = y' := by
    rcases Int.lt_trichotomy y y' with hlt | heq | hgt
    · have := first_mono (y + 1) y' (by omega); omega
    · exact heq
    · have := first_mono (y' + 1) y (by omega); omega
  subst hy
  unfold okD at h h'; rw [decide_eq_true_iff] at h h'
  obtain ⟨h1, h2, h3, h4, h5, h6⟩ := h
  obtain ⟨_, _, h3', h4', h5', h6'⟩ := h'
  unfold num at he
  have hm : m = m' := by
    rcases Int.lt_trichotomy m m' with hlt | heq | hgt
    · have hs := cum_succ y m h3 h4
      have := cum_mono y (m + 1) m' (by omega) (by omega) (by omega); omega
    · exact heq
    · have hs := cum_succ y m' h3' h4'
      have := cum_mono y (m' + 1) m (by omega) (by omega) (by omega); omega
  subst hm
  exact ⟨rfl, rfl, by omega⟩
theorem num_range {y m d : Int} (h : okD y m d = true) : -719162 ≤ num y m d ∧ num y m d ≤ 2932896 := by
  have b := num_bd y m d h
  unfold okD at h; rw [decide_eq_true_iff] at h
  have m1 := first_mono 1 y (by omega)
  have m2 := first_mono (y + 1) 10000 (by omega)
  have e1 : first 1 = -719162 := by decide
  have e2 : first 10000 = 2932897 := by decide
  omega
/-- the date of a day, and the day of a date -/
theorem day_of {y m d : Int} (h : okD y m d = true) : dayY (num y m d) = y ∧ dayM (num y m d) = m ∧ dayD (num y m d) = d := by
  obtain ⟨a, b⟩ := num_range h
  exact num_inj (day_ok _ a b) h (day_num _)

/-! what the functions answer: a value and an error's number -/
def lenV (y m : Int) : Int := if okYM y m = true then mlen y m else 0
def lenE (y m : Int) : Int := if okYM y m = true then 0 else 1
def chkE (y m d : Int) : Int := if okD y m d = true then 0 else 1
def numV (y m d : Int) : Int := if okD y m d = true then num y m d else 0
def okF (y : Int) : Bool := decide (1 ≤ y ∧ y ≤ 10000)
def firV (y : Int) : Int := if okF y = true then first y else 0
def firE (y : Int) : Int := if okF y = true then 0 else 1
def okN (n : Int) : Bool := decide (-719162 ≤ n ∧ n ≤ 2932896)
def ofYV (n : Int) : Int := if okN n = true then dayY n else 0
def ofMV (n : Int) : Int := if okN n = true then dayM n else 0
def ofDV (n : Int) : Int := if okN n = true then dayD n else 0
def ofE (n : Int) : Int := if okN n = true then 0 else 1
def wday (n : Int) : Int := (n + 4) % 7
theorem okYM_iff (y m : Int) : okYM y m = true ↔ 1 ≤ y ∧ y ≤ 9999 ∧ 1 ≤ m ∧ m ≤ 12 := by unfold okYM; exact decide_eq_true_iff
theorem okD_iff (y m d : Int) : okD y m d = true ↔ 1 ≤ y ∧ y ≤ 9999 ∧ 1 ≤ m ∧ m ≤ 12 ∧ 1 ≤ d ∧ d ≤ mlen y m := by unfold okD; exact decide_eq_true_iff
theorem okF_iff (y : Int) : okF y = true ↔ 1 ≤ y ∧ y ≤ 10000 := by unfold okF; exact decide_eq_true_iff
theorem okN_iff (n : Int) : okN n = true ↔ -719162 ≤ n ∧ n ≤ 2932896 := by unfold okN; exact decide_eq_true_iff
theorem okYM_no {y m : Int} (h : ¬ (1 ≤ y ∧ y ≤ 9999 ∧ 1 ≤ m ∧ m ≤ 12)) : okYM y m = false := by
  cases e : okYM y m
  · rfl
  · exact absurd ((okYM_iff y m).1 e) h
theorem okF_no {y : Int} (h : ¬ (1 ≤ y ∧ y ≤ 10000)) : okF y = false := by
  cases e : okF y
  · rfl
  · exact absurd ((okF_iff y).1 e) h
theorem okN_no {n : Int} (h : ¬ (-719162 ≤ n ∧ n ≤ 2932896)) : okN n = false := by
  cases e : okN n
  · rfl
  · exact absurd ((okN_iff n).1 e) h
theorem okD_no {y m d : Int} (h : ¬ (1 ≤ y ∧ y ≤ 9999 ∧ 1 ≤ m ∧ m ≤ 12 ∧ 1 ≤ d ∧ d ≤ mlen y m)) : okD y m d = false := by
  cases e : okD y m d
  · rfl
  · exact absurd ((okD_iff y m d).1 e) h
end Go.Proofs.YtoklcbkphipmkaaDoor.Cal
