/-
  DIGITS, PLAIN: bytes as digits, and digits as bytes; both ways of reading digits are one; there and back. No program is in sight.
-/
import GoSem.Core.Utf8
namespace Go.Proofs.Ytknnadihmodnfaa.Lit
set_option linter.unusedVariables false
open Go
/-- the digit of a number below 16 -/
def hexD (v : Nat) : UInt8 := if v < 10 then UInt8.ofNat (48 + v) else UInt8.ofNat (87 + v)
def flatL (l : List UInt8) : List UInt8 := l.flatMap fun b => [44, hexD (b.toNat / 16), hexD (b.toNat % 16)]
/-- bytes as digits -/
def hexL (l : List UInt8) : List UInt8 := (flatL l).drop 1
/-- what a digit tells; -1 if it is none -/
def digV (b : UInt8) : Int :=
  if 48 ≤ b.toNat ∧ b.toNat ≤ 57 then (b.toNat : Int) - 48 else if 97 ≤ b.toNat ∧ b.toNat ≤ 102 then (b.toNat : Int) - 87 else if 65 ≤ b.toNat ∧ b.toNat ≤ 70 then (b.toNat : Int) - 55 else -1
def byteD (a b : UInt8) : UInt8 := UInt8.ofNat (16 * (digV a).toNat + (digV b).toNat)
def okD (a b : UInt8) : Bool := decide (0 ≤ digV a ∧ 0 ≤ digV b)
def unhP : List UInt8 → Option (List UInt8)
  | [a, b] => if okD a b = true then some [byteD a b] else none
  | a :: b :: c :: r => if okD a b = true ∧ c = 44 then (unhP r).map (byteD a b :: ·) else none
  | _ => none
/-- digits as bytes -/
def unh (l : List UInt8) : Option (List UInt8) := if l = [] then some [] else unhP l
theorem flat_snoc (l : List UInt8) (b : UInt8) : flatL (l ++ [b]) = flatL l ++ [44, hexD (b.toNat / 16), hexD (b.toNat % 16)] := by simp [flatL]
theorem flat_len (l : List UInt8) : (flatL l).length = 3 * l.length := by
  induction l with
  | nil => rfl
  | cons b t ih => simp only [flatL, List.flatMap_cons, List.length_append, List.length_cons, List.length_nil] at *; omega
theorem hex_len (l : List UInt8) : (hexL l).length = 3 * l.length - 1 := by unfold hexL; rw [List.length_drop, flat_len]
theorem hex_nil : hexL [] = [] := rfl
theorem hex_one (b : UInt8) : hexL [b] = [hexD (b.toNat / 16), hexD (b.toNat % 16)] := rfl
theorem hex_snoc (l : List UInt8) (b : UInt8) (h : l ≠ []) : hexL (l ++ [b]) = hexL l ++ [44, hexD (b.toNat / 16), hexD (b.toNat % 16)] := by
  unfold hexL
  rw [flat_snoc, List.drop_append_of_le_length]
  rw [flat_len]
  have := List.length_pos_iff.2 h
  omega
theorem hex_cons (b c : UInt8) (t : List UInt8) : hexL (b :: c :: t) = hexD (b.toNat / 16) :: hexD (b.toNat % 16) :: 44 :: hexL (c :: t) := rfl
/-! ### Small facts of digits, tried one by one -/
theorem hexD_all : ∀ v : Fin 16, digV (hexD v.val) = (v.val : Int) ∧ hexD v.val ≠ 44 := by decide
theorem hexD_dig {v : Nat} (h : v < 16) : digV (hexD v) = (v : Int) := (hexD_all ⟨v, h⟩).1
def low1 (b : UInt8) : UInt8 := if 65 ≤ b.toNat ∧ b.toNat ≤ 70 then b + 32 else b
theorem dig_low_all : ∀ n : Fin 256, digV (low1 (UInt8.ofNat n.val)) = digV (UInt8.ofNat n.val) := by decide +kernel
theorem dig_low (b : UInt8) : digV (low1 b) = digV b := by
  have := dig_low_all ⟨b.toNat, b.toNat_lt⟩
  simpa using this
/-- a small letter's, or a figure's, digit is it again -/
theorem low_hex_all : ∀ n : Fin 256, 0 ≤ digV (UInt8.ofNat n.val) → hexD (digV (UInt8.ofNat n.val)).toNat = low1 (UInt8.ofNat n.val) ∧ (digV (UInt8.ofNat n.val)).toNat < 16 := by decide +kernel
theorem low_hex (b : UInt8) (h : 0 ≤ digV b) : hexD (digV b).toNat = low1 b ∧ (digV b).toNat < 16 := by
  have := low_hex_all ⟨b.toNat, b.toNat_lt⟩
  simp at this
  exact ⟨(this h).1, by have := (this h).2; omega⟩
theorem low_eq_all : ∀ n : Fin 256, (low1 (UInt8.ofNat n.val) = 44 ↔ UInt8.ofNat n.val = 44) := by decide +kernel
theorem low_comma (b : UInt8) : low1 b = 44 ↔ b = 44 := by
  have := low_eq_all ⟨b.toNat, b.toNat_lt⟩
  simpa using this
theorem ok_iff {a b : UInt8} : okD a b = true ↔ 0 ≤ digV a ∧ 0 ≤ digV b := by unfold okD; exact decide_eq_true_iff
theorem byte_of {a b : UInt8} (h : okD a b = true) : (byteD a b).toNat = 16 * (digV a).toNat + (digV b).toNat := by
  obtain ⟨h1, h2⟩ := ok_iff.1 h
  have := (low_hex a h1).2
  have := (low_hex b h2).2
  unfold byteD
  rw [UInt8.toNat_ofNat_of_lt' (by simp [UInt8.size]; omega)]
theorem byte_digits {a b : UInt8} (h : okD a b = true) : hexD ((byteD a b).toNat / 16) = low1 a ∧ hexD ((byteD a b).toNat % 16) = low1 b := by
  obtain ⟨h1, h2⟩ := ok_iff.1 h
  have a1 := low_hex a h1
  have b1 := low_hex b h2
  rw [byte_of h, ← a1.1, ← b1.1]
  constructor <;> congr 1 <;> omega
/-! ### Of digits that are read the bytes have these digits -/
theorem unhP_ne : ∀ {l o : List UInt8}, unhP l = some o → o ≠ []
  | [], o, h => by simp [unhP] at h
  | [a], o, h => by simp [unhP] at h
  | [a, b], o, h => by
    unfold unhP at h; split at h
    · injection h with h; subst h; simp
    · cases h
  | a :: b :: c :: r, o, h => by
    unfold unhP at h; split at h
    · obtain ⟨x, _, rfl⟩ := Option.map_eq_some_iff.1 h; simp
    · cases h
theorem unhP_hex : ∀ {l o : List UInt8}, unhP l = some o → hexL o = l.map low1
  | [], o, h => by simp [unhP] at h
  | [a], o, h => by simp [unhP] at h
  | [a, b], o, h => by
    unfold unhP at h; split at h
    · rename_i hk; injection h with h; subst h
      obtain ⟨e1, e2⟩ := byte_digits hk
      rw [hex_one, e1, e2]; rfl
    · cases h
  | a :: b :: c :: r, o, h => by
    unfold unhP at h; split at h
    · rename_i hk
      obtain ⟨x, hx, rfl⟩ := Option.map_eq_some_iff.1 h
      have ih := unhP_hex hx
      obtain ⟨e1, e2⟩ := byte_digits hk.1
      match x, unhP_ne hx, ih with
      | y :: t, _, ih =>
        rw [hex_cons, ih, e1, e2, hk.2]; rfl
    · cases h
theorem unh_hex {l o : List UInt8} (h : unh l = some o) : hexL o = l.map low1 := by
  unfold unh at h; split at h
  · rename_i hl; injection h with h; subst h; rw [hl]; rfl
  · exact unhP_hex h
/-- bytes are read from their digits -/
theorem unhP_of (b : UInt8) (t : List UInt8) : unhP (hexL (b :: t)) = some (b :: t) := by
  have hb : okD (hexD (b.toNat / 16)) (hexD (b.toNat % 16)) = true ∧ byteD (hexD (b.toNat / 16)) (hexD (b.toNat % 16)) = b := by
    have hl := b.toNat_lt
    have e1 := hexD_dig (show b.toNat / 16 < 16 by omega)
    have e2 := hexD_dig (show b.toNat % 16 < 16 by omega)
    refine ⟨ok_iff.2 ⟨by omega, by omega⟩, ?_⟩
    unfold byteD
    rw [e1, e2]
    simp only [Int.toNat_natCast]
    rw [Nat.div_add_mod]; simp
  induction t generalizing b with
  | nil => rw [hex_one]; unfold unhP; rw [if_pos hb.1, hb.2]
  | cons c t ih =>
    rw [hex_cons]
    unfold unhP
    rw [if_pos ⟨hb.1, rfl⟩, ih c, hb.2]
    · rfl
    · have hl := c.toNat_lt
      have e1 := hexD_dig (show c.toNat / 16 < 16 by omega)
      have e2 := hexD_dig (show c.toNat % 16 < 16 by omega)
      refine ⟨ok_iff.2 ⟨by omega, by omega⟩, ?_⟩
      unfold byteD
      rw [e1, e2]
      simp only [Int.toNat_natCast]
      rw [Nat.div_add_mod]; simp
theorem unh_of (l : List UInt8) : unh (hexL l) = some l := by
  match l with
  | [] => rfl
  | b :: t =>
    unfold unh
    rw [if_neg (by intro e; have := hex_len (b :: t); rw [e] at this; simp at this; omega)]
    exact unhP_of b t
/-! ### The reference's way: the bytes of small letters' digits; right, if these are its digits -/
/-- a digit's number, by the list of digits; 16: it is none -/
def valR (b : UInt8) : Nat := if 48 ≤ b.toNat ∧ b.toNat ≤ 57 then b.toNat - 48 else if 97 ≤ b.toNat ∧ b.toNat ≤ 102 then b.toNat - 87 else 16
def byteR (a b : UInt8) : UInt8 := UInt8.ofNat (16 * valR a + valR b)
def outR : List UInt8 → List UInt8
  | [a, b] => [byteR a b]
  | a :: b :: c :: r => byteR a b :: outR r
  | _ => []
theorem valR_hex_all : ∀ n : Fin 256, (valR (UInt8.ofNat n.val) < 16 → hexD (valR (UInt8.ofNat n.val)) = UInt8.ofNat n.val) ∧ (∀ v : Fin 16, hexD v.val = UInt8.ofNat n.val → valR (UInt8.ofNat n.val) = v.val) := by decide +kernel
theorem valR_hex (b : UInt8) : (valR b < 16 → hexD (valR b) = b) ∧ (∀ v, v < 16 → hexD v = b → valR b = v) := by
  have := valR_hex_all ⟨b.toNat, b.toNat_lt⟩
  simp at this
  exact ⟨this.1, fun v hv h => this.2 ⟨v, hv⟩ h⟩
theorem valR_dig_all : ∀ n : Fin 256, valR (low1 (UInt8.ofNat n.val)) = if 0 ≤ digV (UInt8.ofNat n.val) then (digV (UInt8.ofNat n.val)).toNat else 16 := by decide +kernel
theorem valR_dig (b : UInt8) : valR (low1 b) = if 0 ≤ digV b then (digV b).toNat else 16 := by
  have := valR_dig_all ⟨b.toNat, b.toNat_lt⟩
  simpa using this
theorem byteR_ok {a b : UInt8} (h : okD a b = true) : byteR (low1 a) (low1 b) = byteD a b := by
  obtain ⟨h1, h2⟩ := ok_iff.1 h
  unfold byteR byteD
  rw [valR_dig, valR_dig, if_pos h1, if_pos h2]
/-- if the two digits of a byte are these two, they are digits -/
theorem ok_of_digits {a b : UInt8} {n : Nat} (hn : n < 256) (h1 : hexD (n / 16) = low1 a) (h2 : hexD (n % 16) = low1 b) : okD a b = true := by
  have ea := (valR_hex (low1 a)).2 (n / 16) (by omega) h1
  have eb := (valR_hex (low1 b)).2 (n % 16) (by omega) h2
  rw [valR_dig] at ea eb
  refine ok_iff.2 ⟨?_, ?_⟩
  · apply Decidable.byContradiction; intro hc; rw [if_neg hc] at ea; omega
  · apply Decidable.byContradiction; intro hc; rw [if_neg hc] at eb; omega
theorem outR_ne (a b : UInt8) (r : List UInt8) : outR (a :: b :: r) ≠ [] := by
  match r with
  | [] => simp [outR]
  | c :: r => simp [outR]
theorem two_ways : ∀ l : List UInt8, l ≠ [] → unhP l = if hexL (outR (l.map low1)) = l.map low1 then some (outR (l.map low1)) else none
  | [], h => absurd rfl h
  | [a], _ => by
    show none = if hexL [] = [low1 a] then _ else _
    rw [if_neg (by simp [hex_nil])]
  | [a, b], _ => by
    show unhP [a, b] = if hexL [byteR (low1 a) (low1 b)] = [low1 a, low1 b] then some [byteR (low1 a) (low1 b)] else none
    unfold unhP
    by_cases hk : okD a b = true
    · obtain ⟨e1, e2⟩ := byte_digits hk
      rw [if_pos hk, byteR_ok hk, hex_one, e1, e2, if_pos rfl]
    · rw [if_neg hk, if_neg]
      intro e
      rw [hex_one] at e
      simp only [List.cons.injEq, and_true] at e
      exact hk (ok_of_digits (UInt8.toNat_lt _) e.1 e.2)
  | a :: b :: c :: r, _ => by
    show unhP (a :: b :: c :: r) = if hexL (byteR (low1 a) (low1 b) :: outR (r.map low1)) = low1 a :: low1 b :: low1 c :: r.map low1 then some (byteR (low1 a) (low1 b) :: outR (r.map low1)) else none
    unfold unhP
    match r with
    | [] =>
      have e0 : (if hexL (byteR (low1 a) (low1 b) :: outR ([].map low1)) = low1 a :: low1 b :: low1 c :: [].map low1 then some (byteR (low1 a) (low1 b) :: outR ([].map low1)) else none) = none := by
        rw [if_neg]
        intro e
        have := congrArg List.length e
        rw [hex_len] at this
        simp [outR] at this
      rw [e0]
      split
      · rfl
      · rfl
    | [x] =>
      have e0 : (if hexL (byteR (low1 a) (low1 b) :: outR ([x].map low1)) = low1 a :: low1 b :: low1 c :: [x].map low1 then some (byteR (low1 a) (low1 b) :: outR ([x].map low1)) else none) = none := by
        rw [if_neg]
        intro e
        have := congrArg List.length e
        rw [hex_len] at this
        simp [outR] at this
      rw [e0]
      split
      · rfl
      · rfl
    | x :: y :: r =>
      rw [two_ways (x :: y :: r) (by simp)]
      have hne := outR_ne (low1 x) (low1 y) (r.map low1)
      rw [List.map_cons, List.map_cons] at *
      generalize hO : outR (low1 x :: low1 y :: r.map low1) = O at *
      match O, hne with
      | o :: O', _ =>
        rw [hex_cons]
        by_cases hk : okD a b = true
        · obtain ⟨e1, e2⟩ := byte_digits hk
          rw [byteR_ok hk, e1, e2]
          by_cases hc : c = 44
          · subst hc
            rw [if_pos ⟨hk, rfl⟩]
            have : low1 44 = 44 := by decide
            rw [this]
            by_cases hh : hexL (o :: O') = low1 x :: low1 y :: r.map low1
            · rw [if_pos hh, if_pos (by rw [hh])]; rfl
            · rw [if_neg hh, if_neg (by intro e; simp only [List.cons.injEq, true_and] at e; exact hh e)]; rfl
          · rw [if_neg (by intro e; exact hc e.2), if_neg]
            intro e
            simp only [List.cons.injEq, true_and] at e
            exact hc ((low_comma c).1 e.1.symm)
        · rw [if_neg (fun e => hk e.1), if_neg]
          intro e
          simp only [List.cons.injEq] at e
          exact hk (ok_of_digits (UInt8.toNat_lt _) e.1 e.2.1)
/-- the reference's answer -/
def unhR (l : List UInt8) : Option (List UInt8) := if hexL (outR (l.map low1)) = l.map low1 then some (outR (l.map low1)) else none
theorem unhR_eq (l : List UInt8) : unhR l = unh l := by
  unfold unh
  split
  · rename_i h; subst h; rfl
  · rename_i h; exact (two_ways l h).symm
end Go.Proofs.Ytknnadihmodnfaa.Lit
