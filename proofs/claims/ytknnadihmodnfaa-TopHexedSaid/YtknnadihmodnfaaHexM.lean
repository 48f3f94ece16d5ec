/-
  LINES OF DIGITS, in plain Lean: a line of fields of digits is read as these fields.
-/
import Derived.Test.YtknnadihmodnfaaFld
import Derived.Test.YtknnadihmodnfaaScnJ
namespace Go.Proofs.Ytknnadihmodnfaa.Scn
open Go.ChangeShapes Go.WideShapes Go.ChangeAt Go.RowKit
open Go.Proofs.Ytknnadihmodnfaa
open Go.Proofs.Ytknnadihmodnfaa.Wd
open Go.Proofs.Ytknnadihmodnfaa.Lit (L L_len hexL flatL hexD hex_len)
set_option linter.unusedVariables false
theorem k34 : kindN 34 = 4 := by decide
theorem k32 : kindN 32 = 1 := by decide
theorem fldP (x : List UInt8) (hx : ∀ b ∈ x, kindN b = 0) (r : List UInt8) (p : Nat) (acc : List Fl) (bg : Nat) (tx : List UInt8) (q : Nat) :
    fld (x ++ r) 1 p acc bg tx q = fld r 1 (p + x.length) acc bg (tx ++ x) q := by
  induction x generalizing p tx with
  | nil => simp
  | cons b t ih =>
    rw [List.cons_append, f10 (hx b (by simp)), ih (fun c hc => hx c (by simp [hc]))]
    rw [List.append_assoc, List.length_cons, show p + 1 + t.length = p + (t.length + 1) by omega]; rfl
theorem quo_plain {b : UInt8} {t : List UInt8} (hx : ∀ c ∈ b :: t, kindN c = 0) : quoV (b :: t) = b :: t := by
  have h1 : (b :: t).any badB = false := by
    rw [List.any_eq_false]; intro c hc; simp [badB, hx c hc]
  have h2 : (b :: t).any inB = false := by
    rw [List.any_eq_false]; intro c hc; simp [inB, hx c hc]
  unfold quoV wQ
  rw [h1, h2]; rfl
theorem fldQ (x : List UInt8) (hx : ∀ b ∈ x, kindN b = 0) (r : List UInt8) (p : Nat) (acc : List Fl) (bg : Nat) (tx : List UInt8) (q : Nat) (h24 : ¬ acc.length = 24) :
    ∃ p' bg' q', fld (quoV x ++ r) 0 p acc bg tx q = fld r 1 p' acc bg' x q' := by
  cases x with
  | nil =>
    refine ⟨p + 1 + 1, p + 1, p + 1, ?_⟩
    show fld (34 :: 34 :: r) 0 p acc bg tx q = _
    rw [f04 k34 h24, f24 k34]
  | cons b t =>
    rw [quo_plain hx, List.cons_append, f00 (hx b (by simp)) h24, fldP t (fun c hc => hx c (by simp [hc]))]
    exact ⟨_, _, _, rfl⟩
theorem join_two (a b : List UInt8) (r : List (List UInt8)) : Lib.join (a :: b :: r) [32] = a ++ 32 :: Lib.join (b :: r) [32] := by
  rw [Lib.join_cons, Lib.join_cons]
  simp [Lib.joinTail]
theorem fld_line : ∀ (ys : List (List UInt8)), (∀ y ∈ ys, ∀ b ∈ y, kindN b = 0) → ∀ (p : Nat) (acc : List Fl) (bg : Nat) (tx : List UInt8) (q : Nat), acc.length + ys.length ≤ 24 →
    ∃ l', fld (Lib.join (ys.map quoV) [32]) 0 p acc bg tx q = .ok (acc ++ l') ∧ l'.map (·.1) = ys
  | [], _, p, acc, bg, tx, q, _ => ⟨[], by rw [List.map_nil, Lib.join_nil, f0n, List.append_nil], rfl⟩
  | [y], hy, p, acc, bg, tx, q, hl => by
    simp only [List.length_cons, List.length_nil] at hl
    obtain ⟨p', bg', q', h⟩ := fldQ y (hy y (by simp)) [] p acc bg tx q (by omega)
    refine ⟨[(y, bg')], ?_, rfl⟩
    rw [List.map_cons, List.map_nil, Lib.join_one]
    rw [List.append_nil] at h
    rw [h, f1n, f0n]
  | y :: z :: r, hy, p, acc, bg, tx, q, hl => by
    simp only [List.length_cons] at hl
    obtain ⟨p', bg', q', h⟩ := fldQ y (hy y (by simp)) (32 :: Lib.join ((z :: r).map quoV) [32]) p acc bg tx q (by omega)
    obtain ⟨l', h1, h2⟩ := fld_line (z :: r) (fun u hu => hy u (by simp only [List.mem_cons] at hu ⊢; exact .inr hu)) (p' + 1) (acc ++ [(y, bg')]) bg' y q' (by simp; omega)
    refine ⟨(y, bg') :: l', ?_, by simp [h2]⟩
    have e : Lib.join ((y :: z :: r).map quoV) [32] = quoV y ++ 32 :: Lib.join ((z :: r).map quoV) [32] := join_two _ _ _
    rw [e, h, f1e (.inl k32), f01 k32, h1]
    simp
theorem hex_all : ∀ k : Fin 16, kindN (hexD k.val) = 0 := by decide
theorem hex_kind (l : List UInt8) : ∀ b ∈ hexL l, kindN b = 0 := by
  intro b hb
  have hb' : b ∈ flatL l := List.mem_of_mem_drop hb
  obtain ⟨c, _, hc⟩ := List.mem_flatMap.1 hb'
  have hlt := c.toNat_lt
  simp only [List.mem_cons, List.not_mem_nil, or_false] at hc
  rcases hc with rfl | rfl | rfl
  · decide
  · exact hex_all ⟨c.toNat / 16, by omega⟩
  · exact hex_all ⟨c.toNat % 16, by omega⟩
/-- a text's digits -/
abbrev hxB (x : ByteArray) : ByteArray := ⟨(hexL (L x)).toArray⟩
def cost : List ByteArray → Nat
  | [] => 0
  | x :: r => cost r + (3 * x.size + 3)
theorem cost_app (l : List ByteArray) (x : ByteArray) : cost (l ++ [x]) = cost l + (3 * x.size + 3) := by
  induction l with
  | nil => simp [cost]
  | cons a t ih => simp only [List.cons_append, cost, ih]; omega
theorem cost_take {l : List ByteArray} {k : Nat} (h : k < l.length) : cost (l.take (k + 1)) = cost (l.take k) + (3 * l[k].size + 3) := by
  rw [List.take_succ_eq_append_getElem h, cost_app]
theorem quo_cost (x : ByteArray) : (quoV (hexL (L x))).length + 1 ≤ 3 * x.size + 3 := by
  have h := quo_len (hexL (L x))
  rw [hex_len, L_len] at h
  omega
theorem line_cost : ∀ xs : List ByteArray, (Lib.join ((xs.map fun x => hexL (L x)).map quoV) [32]).length ≤ cost xs
  | [] => by simp [Lib.join_nil]
  | [x] => by
    have := quo_cost x
    simp only [List.map_cons, List.map_nil, Lib.join_one, cost]; omega
  | x :: y :: r => by
    have h1 := quo_cost x
    have h2 := line_cost (y :: r)
    simp only [List.map_cons] at h2 ⊢
    rw [join_two, List.length_append, List.length_cons]
    simp only [cost] at h2 ⊢
    omega
theorem line_eq (xs : List ByteArray) : lineV (xs.map hxB) = Lib.join ((xs.map fun x => hexL (L x)).map quoV) [32] := by
  unfold lineV
  rw [List.map_map, List.map_map, List.map_map]
  rfl
theorem hexed {xs : List ByteArray} (h24 : xs.length ≤ 24) (hc : cost xs ≤ 2000) :
    joiE (xs.map hxB) = 0 ∧ (lineV (xs.map hxB)).length ≤ 2000 ∧ ∃ l', fld (lineV (xs.map hxB)) 0 0 [] 0 [] 0 = .ok l' ∧ l'.map (·.1) = xs.map fun x => hexL (L x) := by
  have hl : (lineV (xs.map hxB)).length ≤ 2000 := by rw [line_eq]; exact Nat.le_trans (line_cost xs) hc
  refine ⟨?_, hl, ?_⟩
  · unfold joiE
    have hb : (xs.map hxB).any (fun x => (L x).any badB) = false := by
      rw [List.any_eq_false]
      intro x hx
      obtain ⟨y, _, rfl⟩ := List.mem_map.1 hx
      rw [Bool.not_eq_true, List.any_eq_false]
      intro b hb
      have := hex_kind _ b hb
      simp [badB, this]
    rw [if_neg (by rw [List.length_map]; omega), hb, if_neg (by decide), if_neg (by omega)]
  · have := fld_line (xs.map fun x => hexL (L x)) (fun y hy => by obtain ⟨x, _, rfl⟩ := List.mem_map.1 hy; exact hex_kind _) 0 [] 0 [] 0 (by simp; omega)
    obtain ⟨l', h1, h2⟩ := this
    exact ⟨l', by rw [line_eq, h1]; rfl, h2⟩
/-- the row of the k-th field -/
theorem flat_at : ∀ (l : List Fl) (k : Nat) (h : k < l.length) (j : Nat) (v : Value), (flA l[k])[j]? = some v → (flatF l)[k * 2 + j]? = some v
  | a :: t, 0, h, j, v, hv => by
    simp only [List.getElem_cons_zero] at hv
    rcases j with _ | _ | j
    · simpa [flatF] using hv
    · simpa [flatF] using hv
    · simp at hv
  | a :: t, k + 1, h, j, v, hv => by
    have := flat_at t k (by simpa using h) j v (by simpa using hv)
    have e : flatF (a :: t) = (flA a).toList ++ flatF t := rfl
    rw [e, List.getElem?_append_right (by simp; omega)]
    rw [← this]
    congr 1
    simp; omega
end Go.Proofs.Ytknnadihmodnfaa.Scn
