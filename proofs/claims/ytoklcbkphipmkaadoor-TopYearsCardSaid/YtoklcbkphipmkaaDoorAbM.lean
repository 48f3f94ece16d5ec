/-
  ABBR IN PLAIN LEAN: formats in parts, short names, offsets as text and read.
-/
import Derived.Lib.IndexMore
namespace Go.Proofs.YtoklcbkphipmkaaDoor.Ab
open Go.Lib (cut index occAt index_spec)
set_option linter.unusedVariables false
def signB (b : UInt8) : Bool := decide ((97 ≤ b.toNat ∧ b.toNat ≤ 122) ∨ (65 ≤ b.toNat ∧ b.toNat ≤ 90) ∨ (48 ≤ b.toNat ∧ b.toNat ≤ 57) ∨ b.toNat = 43 ∨ b.toNat = 45)
def signsL (l : List UInt8) : Bool := l.all signB
def cutB (f p : List UInt8) : Bool := (cut f p).2.2
def cutA (f p : List UInt8) : List UInt8 := (cut f p).1
def cutZ (f p : List UInt8) : List UInt8 := (cut f p).2.1
theorem cut_hit {f p : List UInt8} (h : cutB f p = true) : f = cutA f p ++ p ++ cutZ f p := by
  unfold cutB cutA cutZ cut at *
  by_cases h0 : 0 ≤ index f p
  · rw [if_pos h0]
    rcases index_spec f p with ⟨h1, _⟩ | ⟨i, h1, h2, h3, _⟩
    · omega
    · rw [h1]
      simp only [Int.toNat_natCast]
      unfold occAt at h3
      obtain ⟨t, ht⟩ := List.isPrefixOf_iff_prefix.1 h3
      have e : f.drop (i + p.length) = t := by
        rw [← List.drop_drop, ← ht, List.drop_left]
      rw [e, List.append_assoc, ht, List.take_append_drop]
  · rw [if_neg h0] at h; cases h
theorem cut_miss {f p : List UInt8} (h : cutB f p = false) : ∀ j, j ≤ f.length → occAt f p j = false := by
  unfold cutB cut at h
  by_cases h0 : 0 ≤ index f p
  · rw [if_pos h0] at h; cases h
  · rcases index_spec f p with ⟨_, h2⟩ | ⟨i, h1, _⟩
    · exact h2
    · omega
theorem cut_one {f : List UInt8} {c : UInt8} (h : c ∈ f) : cutB f [c] = true := by
  cases hb : cutB f [c] with
  | true => rfl
  | false =>
    obtain ⟨j, hj, e⟩ := List.getElem_of_mem h
    have := cut_miss hb j (by omega)
    unfold occAt at this
    rw [List.drop_eq_getElem_cons hj, e] at this
    simp at this
theorem cut_not {f p : List UInt8} {c : UInt8} (hc : c ∈ p) (h : ¬ c ∈ f) : cutB f p = false := by
  cases hb : cutB f p with
  | false => rfl
  | true => exact absurd (by rw [cut_hit hb]; simp [hc]) h
/-- a format in parts -/
def places (f : List UInt8) : List UInt8 × List UInt8 × List UInt8 × Bool :=
  if cutB f [37, 115] = true then (cutA f [37, 115], [37, 115], cutZ f [37, 115], signsL (cutA f [37, 115]) && signsL (cutZ f [37, 115]))
  else if cutB f [37, 122] = true then (cutA f [37, 122], [37, 122], cutZ f [37, 122], signsL (cutA f [37, 122]) && signsL (cutZ f [37, 122]))
  else if cutB f [47] = true then (cutA f [47], [47], cutZ f [47], (!(cutA f [47]).isEmpty && !(cutZ f [47]).isEmpty) && (signsL (cutA f [47]) && signsL (cutZ f [47])))
  else (f, [], [], signsL f)
def cutV (f : List UInt8) : List UInt8 × List UInt8 × List UInt8 × Bool :=
  if f.length < 1 ∨ 32 < f.length then ([], [], [], false) else places f
def chkB (f : List UInt8) : Bool := (cutV f).2.2.2
def letB (l : List UInt8) : Bool := decide (l.length ≤ 32) && (!(l == [45]) && signsL l)
def two (n : Nat) : List UInt8 := [UInt8.ofNat (48 + n / 10), UInt8.ofNat (48 + n % 10)]
def body (a : Nat) : List UInt8 := two (a / 3600) ++ if a % 60 ≠ 0 then two (a / 60 % 60) ++ two (a % 60) else if a % 3600 ≠ 0 then two (a / 60 % 60) else []
def sg (off : Int) : UInt8 := if off < 0 then 45 else 43
def offB (off : Int) : Bool := decide (-360000 < off ∧ off < 360000)
def offT (off : Int) : List UInt8 := if offB off = true then sg off :: body off.natAbs else []
def offE (off : Int) : Int := if offB off = true then 0 else 1
def ofP (f l : List UInt8) (off : Int) (dst : Bool) : List UInt8 × Int :=
  if (cutV f).2.1 = [37, 115] then ((cutV f).1 ++ l ++ (cutV f).2.2.1, 0)
  else if (cutV f).2.1 = [37, 122] then (if offB off = true then (cutV f).1 ++ offT off ++ (cutV f).2.2.1 else [], offE off)
  else if (cutV f).2.1 = [47] then (if dst = true then (cutV f).2.2.1 else (cutV f).1, 0)
  else (f, 0)
def ofV (f l : List UInt8) (off : Int) (dst : Bool) : List UInt8 × Int := if chkB f = true ∧ letB l = true then ofP f l off dst else ([], 2)
theorem ofV_ok {f l : List UInt8} (off : Int) (dst : Bool) (h : chkB f = true) (h1 : letB l = true) : ofV f l off dst = ofP f l off dst := if_pos ⟨h, h1⟩
def numT : List UInt8 → Int → Int
  | a :: b :: r, p => p * (((a.toNat : Int) - 48) * 10 + ((b.toNat : Int) - 48)) + numT r (p / 60)
  | _, _ => 0
def digB (b : UInt8) : Bool := decide (48 ≤ b.toNat ∧ b.toNat ≤ 57)
def valV (s : List UInt8) : Int := if s.head? = some 45 then -(numT s.tail 3600) else numT s.tail 3600
def lenB (n : Nat) : Bool := decide (3 ≤ n ∧ n ≤ 7 ∧ n % 2 = 1)
def parB (s : List UInt8) : Bool := lenB s.length && (s.tail.all digB && (offB (valV s) && offT (valV s) == s))
def parN (s : List UInt8) : Int := if parB s = true then valV s else 0
def parE (s : List UInt8) : Int := if parB s = true then 0 else 4
theorem two_val {n : Nat} (h : n < 100) (r : List UInt8) (p : Int) : numT (two n ++ r) p = p * n + numT r (p / 60) := by
  show p * ((((UInt8.ofNat (48 + n / 10)).toNat : Int) - 48) * 10 + (((UInt8.ofNat (48 + n % 10)).toNat : Int) - 48)) + numT r (p / 60) = _
  simp only [UInt8.toNat_ofNat']
  rw [Nat.mod_eq_of_lt (by omega : 48 + n / 10 < 2 ^ 8), Nat.mod_eq_of_lt (by omega : 48 + n % 10 < 2 ^ 8)]
  have e : (((48 + n / 10 : Nat) : Int) - 48) * 10 + (((48 + n % 10 : Nat) : Int) - 48) = n := by omega
  rw [e]
theorem two_dig {n : Nat} (h : n < 100) : (two n).all digB = true := by
  unfold two digB
  simp only [List.all_cons, List.all_nil, UInt8.toNat_ofNat', Bool.and_true, Bool.and_eq_true, decide_eq_true_eq]
  rw [Nat.mod_eq_of_lt (by omega : 48 + n / 10 < 2 ^ 8), Nat.mod_eq_of_lt (by omega : 48 + n % 10 < 2 ^ 8)]
  omega
theorem two_len (n : Nat) : (two n).length = 2 := rfl
theorem numT_nil (p : Int) : numT [] p = 0 := rfl
theorem body_val {a : Nat} (h : a < 360000) : numT (body a) 3600 = a := by
  unfold body
  rw [two_val (by omega)]
  split
  · rw [two_val (by omega), ← List.append_nil (two (a % 60)), two_val (by omega), numT_nil]; omega
  · split
    · rw [← List.append_nil (two (a / 60 % 60)), two_val (by omega), numT_nil]; omega
    · rw [numT_nil]; omega
theorem body_dig {a : Nat} (h : a < 360000) : (body a).all digB = true := by
  unfold body
  rw [List.all_append, two_dig (by omega)]
  split
  · rw [List.all_append, two_dig (by omega), two_dig (by omega)]; rfl
  · split
    · rw [two_dig (by omega)]; rfl
    · rfl
theorem body_len (a : Nat) : (body a).length = 2 ∨ (body a).length = 4 ∨ (body a).length = 6 := by
  unfold body
  split
  · simp [two_len]
  · split <;> simp [two_len]
theorem off_val {n : Int} (h : offB n = true) : valV (offT n) = n := by
  have h' := h; unfold offB at h'; simp at h'
  unfold offT; rw [if_pos h]
  unfold valV
  rw [List.head?_cons, List.tail_cons, body_val (by omega)]
  by_cases h0 : n < 0
  · have e : sg n = 45 := if_pos h0
    rw [e, if_pos rfl]; omega
  · have e : sg n = 43 := if_neg h0
    rw [e, if_neg (by decide)]; omega
theorem off_len {n : Int} (h : offB n = true) : (offT n).length = 3 ∨ (offT n).length = 5 ∨ (offT n).length = 7 := by
  unfold offT; rw [if_pos h, List.length_cons]
  have := body_len n.natAbs; omega
theorem par_off {n : Int} (h : offB n = true) : parB (offT n) = true := by
  have h' := h; unfold offB at h'; simp at h'
  unfold parB
  rw [off_val h, h]
  have h1 : lenB (offT n).length = true := by unfold lenB; have := off_len h; simp; omega
  have h2 : (offT n).tail.all digB = true := by unfold offT; rw [if_pos h, List.tail_cons, body_dig (by omega)]
  rw [h1, h2]; simp
theorem parN_off {n : Int} (h : offB n = true) : parN (offT n) = n := by unfold parN; rw [if_pos (par_off h), off_val h]
theorem parE_off {n : Int} (h : offB n = true) : parE (offT n) = 0 := by unfold parE; rw [if_pos (par_off h)]
theorem off_inj {n m : Int} (h : offB n = true) (h2 : offB m = true) : offT n = offT m ↔ n = m :=
  ⟨fun e => by rw [← off_val h, e, off_val h2], fun e => by rw [e]⟩
theorem par_back {s : List UInt8} (h : parE s = 0) : offB (parN s) = true ∧ offT (parN s) = s := by
  unfold parE at h
  by_cases hb : parB s = true
  · unfold parN; rw [if_pos hb]
    unfold parB at hb; simp only [Bool.and_eq_true, beq_iff_eq] at hb
    exact ⟨hb.2.2.1, hb.2.2.2⟩
  · rw [if_neg hb] at h; cases h
theorem sign37 : signB 37 = false := by decide
theorem sign47 : signB 47 = false := by decide
theorem signs_not {l : List UInt8} {c : UInt8} (h : signsL l = true) (hc : signB c = false) : ¬ c ∈ l := fun hm => by
  have := List.all_eq_true.1 h c hm
  rw [hc] at this; cases this
theorem chk_len {f : List UInt8} (h : chkB f = true) : 1 ≤ f.length ∧ f.length ≤ 32 ∧ cutV f = places f := by
  unfold chkB cutV at *
  by_cases h0 : f.length < 1 ∨ 32 < f.length
  · rw [if_pos h0] at h; cases h
  · rw [if_neg h0]; exact ⟨by omega, by omega, rfl⟩
/-- a right format with %: its place is that of the letter or of the offset -/
theorem percent_place {f : List UInt8} (h : chkB f = true) (hp : (37 : UInt8) ∈ f) : ((cutV f).2.1 = [37, 115] ∨ (cutV f).2.1 = [37, 122]) ∧ f = (cutV f).1 ++ (cutV f).2.1 ++ (cutV f).2.2.1 := by
  obtain ⟨_, _, e⟩ := chk_len h
  unfold chkB at h
  rw [e] at h ⊢
  unfold places at h ⊢
  by_cases h1 : cutB f [37, 115] = true
  · rw [if_pos h1]; exact ⟨Or.inl rfl, cut_hit h1⟩
  · rw [if_neg h1] at h ⊢
    by_cases h2 : cutB f [37, 122] = true
    · rw [if_pos h2]; exact ⟨Or.inr rfl, cut_hit h2⟩
    · rw [if_neg h2] at h ⊢
      exfalso
      by_cases h3 : cutB f [47] = true
      · rw [if_pos h3] at h
        simp only [Bool.and_eq_true] at h
        have hm := hp
        rw [cut_hit h3] at hm
        simp only [List.mem_append, List.mem_singleton] at hm
        rcases hm with (hm | hm) | hm
        · exact signs_not h.2.1 sign37 hm
        · cases hm
        · exact signs_not h.2.2 sign37 hm
      · rw [if_neg h3] at h
        exact signs_not h sign37 hp
theorem of_percent {f l1 l2 : List UInt8} (o : Int) (h : chkB f = true) (h1 : letB l1 = true) (h2 : letB l2 = true) (hp : (37 : UInt8) ∈ f) (d e : Bool) :
    (ofV f l1 o d).2 = (ofV f l2 o e).2 ∧ ((ofV f l1 o d).2 = 0 → (f.length : Int) - 2 ≤ ((ofV f l1 o d).1.length : Int)) := by
  obtain ⟨hq, hf⟩ := percent_place h hp
  have hl := congrArg List.length hf
  simp only [List.length_append] at hl
  rw [ofV_ok o d h h1, ofV_ok o e h h2]
  unfold ofP
  rcases hq with q | q
  · rw [q] at hl ⊢
    simp at hl ⊢
    omega
  · rw [q] at hl ⊢
    unfold offE
    cases hb : offB o
    · simp at hl ⊢
    · simp at hl ⊢
      omega
theorem of_plain {f l1 : List UInt8} (o1 : Int) (d : Bool) (h : chkB f = true) (h1 : letB l1 = true) (hp : ¬ (37 : UInt8) ∈ f) :
    ofV f l1 o1 d = (if (47 : UInt8) ∈ f then (if d = true then cutZ f [47] else cutA f [47]) else f, 0) := by
  obtain ⟨_, _, e⟩ := chk_len h
  have c1 : cutB f [37, 115] = false := cut_not (by simp : (37 : UInt8) ∈ [37, 115]) hp
  have c2 : cutB f [37, 122] = false := cut_not (by simp : (37 : UInt8) ∈ [37, 122]) hp
  rw [ofV_ok o1 d h h1]
  unfold ofP
  rw [e]
  unfold places
  rw [c1, c2]
  by_cases h3 : (47 : UInt8) ∈ f
  · rw [cut_one h3, if_pos h3]
    simp
  · have c3 : cutB f [47] = false := cut_not (by simp : (47 : UInt8) ∈ [47]) h3
    rw [c3, if_neg h3]
    simp
theorem of_slash {f : List UInt8} (hs : (47 : UInt8) ∈ f) : cutA f [47] ++ [47] ++ cutZ f [47] = f := (cut_hit (cut_one hs)).symm
/-- an offset's text is a right letter, and a right format -/
theorem off_signs {n : Int} (h : offB n = true) : signsL (offT n) = true := by
  have h' := h; unfold offB at h'; simp at h'
  unfold signsL offT
  rw [if_pos h, List.all_cons]
  have h1 : signB (sg n) = true := by unfold sg; split <;> decide
  rw [h1, Bool.true_and, List.all_eq_true]
  intro x hx
  have := List.all_eq_true.1 (body_dig (a := n.natAbs) (by omega)) x hx
  unfold digB at this; unfold signB; simp at this ⊢; omega
theorem off_let {n : Int} (h : offB n = true) : letB (offT n) = true := by
  unfold letB
  rw [off_signs h]
  have := off_len h
  have hne : (offT n == [45]) = false := by
    rw [beq_eq_false_iff_ne]; intro e; rw [e] at this; simp at this
  rw [hne]; simp; omega
theorem off_chk {n : Int} (h : offB n = true) : chkB (offT n) = true := by
  have h1 := off_len h
  have hs := off_signs h
  unfold chkB cutV
  rw [if_neg (by omega)]
  unfold places
  rw [cut_not (by simp : (37 : UInt8) ∈ [37, 115]) (signs_not hs sign37), cut_not (by simp : (37 : UInt8) ∈ [37, 122]) (signs_not hs sign37), cut_not (by simp : (47 : UInt8) ∈ [47]) (signs_not hs sign47)]
  simp only [Bool.false_eq_true, if_false]
  exact hs
theorem of_z (l : List UInt8) (n : Int) (d : Bool) (h : letB l = true) : ofV [37, 122] l n d = (offT n, offE n) := by
  have h1 : chkB [37, 122] = true := by decide
  have h2 : cutV [37, 122] = ([], [37, 122], [], true) := by decide
  rw [ofV_ok n d h1 h]
  unfold ofP
  rw [h2]
  simp
  intro hb; unfold offT; rw [hb]; rfl
end Go.Proofs.YtoklcbkphipmkaaDoor.Ab
