/-
  CHARACTERS AS BYTES, PLAIN: a character's bytes, a text's first character, where a text is not right, its characters; there and back. No program is in sight.
-/
import GoSem.Core.Utf8
namespace Go.Proofs.YtgflodjohaemiaaDoor.Utf
set_option linter.unusedVariables false
open Go
/-- the bytes of a character -/
def enc (c : Nat) : List UInt8 :=
  if c < 128 then [UInt8.ofNat c]
  else if c < 2048 then [UInt8.ofNat (192 + c / 64), UInt8.ofNat (128 + c % 64)]
  else if c < 65536 then [UInt8.ofNat (224 + c / 4096), UInt8.ofNat (128 + c / 64 % 64), UInt8.ofNat (128 + c % 64)]
  else [UInt8.ofNat (240 + c / 262144), UInt8.ofNat (128 + c / 4096 % 64), UInt8.ofNat (128 + c / 64 % 64), UInt8.ofNat (128 + c % 64)]
def val (c : Nat) : Bool := decide (c < 55296 ∨ (57344 ≤ c ∧ c ≤ 1114111))
/-- the first character of a text, and its length -/
def bt (l : List UInt8) (k : Nat) : Nat := (l.getD k 0).toNat
def ct (l : List UInt8) (k : Nat) : Bool := decide (k < l.length) && (bt l k / 64 == 2)
def dec (l : List UInt8) : Nat × Nat :=
  if bt l 0 < 128 then (bt l 0, 1)
  else if bt l 0 / 32 == 6 && ct l 1 then
    if (bt l 0 % 32) * 64 + bt l 1 % 64 ≥ 128 then ((bt l 0 % 32) * 64 + bt l 1 % 64, 2) else (65533, 1)
  else if bt l 0 / 16 == 14 && ct l 1 && ct l 2 then
    if (bt l 0 % 16) * 4096 + (bt l 1 % 64) * 64 + bt l 2 % 64 ≥ 2048 && val ((bt l 0 % 16) * 4096 + (bt l 1 % 64) * 64 + bt l 2 % 64) then ((bt l 0 % 16) * 4096 + (bt l 1 % 64) * 64 + bt l 2 % 64, 3) else (65533, 1)
  else if bt l 0 / 8 == 30 && ct l 1 && ct l 2 && ct l 3 then
    if (bt l 0 % 8) * 262144 + (bt l 1 % 64) * 4096 + (bt l 2 % 64) * 64 + bt l 3 % 64 ≥ 65536 && val ((bt l 0 % 8) * 262144 + (bt l 1 % 64) * 4096 + (bt l 2 % 64) * 64 + bt l 3 % 64) then ((bt l 0 % 8) * 262144 + (bt l 1 % 64) * 4096 + (bt l 2 % 64) * 64 + bt l 3 % 64, 4) else (65533, 1)
  else (65533, 1)

theorem val_iff (c : Nat) : val c = true ↔ c < 55296 ∨ (57344 ≤ c ∧ c ≤ 1114111) := by unfold val; exact decide_eq_true_iff
theorem valid_val (c : Nat) : Utf8.valid (c : Int) = val c := by
  rw [Bool.eq_iff_iff, val_iff]
  simp only [Utf8.valid, Bool.or_eq_true, Bool.and_eq_true, decide_eq_true_eq]
  omega
theorem ite_toList {p : Prop} [Decidable p] (a b : ByteArray) : (if p then a else b).data.toList = if p then a.data.toList else b.data.toList := by split <;> rfl
def encB (c : Nat) : ByteArray :=
  if c < 0x80 then ⟨#[UInt8.ofNat c]⟩
  else if c < 0x800 then ⟨#[UInt8.ofNat (0xC0 + c / 64), UInt8.ofNat (0x80 + c % 64)]⟩
  else if c < 0x10000 then ⟨#[UInt8.ofNat (0xE0 + c / 4096), UInt8.ofNat (0x80 + c / 64 % 64), UInt8.ofNat (0x80 + c % 64)]⟩
  else ⟨#[UInt8.ofNat (0xF0 + c / 262144), UInt8.ofNat (0x80 + c / 4096 % 64), UInt8.ofNat (0x80 + c / 64 % 64), UInt8.ofNat (0x80 + c % 64)]⟩
theorem encode_eq (r : Int) : Utf8.encode r = encB (if Utf8.valid r then r.toNat else Utf8.runeError) := rfl
theorem encB_list (c : Nat) : (encB c).data.toList = enc c := by
  unfold encB enc
  simp only [ite_toList]
theorem enc_utf8 (c : Nat) (h : val c = true) : (Utf8.encode (c : Int)).data.toList = enc c := by
  have e : (if Utf8.valid (c : Int) = true then (c : Int).toNat else Utf8.runeError) = c := by
    rw [valid_val, h]; rfl
  rw [encode_eq, e, encB_list]
theorem bt_drop (s : ByteArray) (pos k : Nat) : bt (s.data.toList.drop pos) k = (s.get! (pos + k)).toNat := by
  unfold bt
  congr 1
  simp only [ByteArray.get!, List.getD_eq_getElem?_getD, List.getElem?_drop, getElem!_def, Array.getElem?_toList]
  cases s.data[pos + k]? <;> rfl
theorem dec_utf8 (s : ByteArray) (pos : Nat) : Utf8.decode s pos = dec (s.data.toList.drop pos) := by
  have hc : ∀ k, (decide (pos + k < s.size) && ((s.get! (pos + k)).toNat / 64 == 2)) = ct (s.data.toList.drop pos) k := by
    intro k
    unfold ct
    rw [bt_drop]
    congr 1
    rw [Bool.eq_iff_iff]
    simp only [decide_eq_true_eq, List.length_drop, Array.length_toList]
    have : s.data.size = s.size := rfl
    omega
  unfold Utf8.decode dec
  simp only [hc, bt_drop, Utf8.runeError]
  simp only [← valid_val]
theorem bt_lt (l : List UInt8) (k : Nat) : bt l k < 256 := (l.getD k 0).toNat_lt
theorem dec_pos (l : List UInt8) : 1 ≤ (dec l).2 := by
  unfold dec; repeat' split
  all_goals simp
theorem u8_eq {a : UInt8} {n : Nat} (h : a.toNat = n) : a = UInt8.ofNat n := by
  apply UInt8.toNat.inj
  rw [UInt8.toNat_ofNat', ← h, Nat.mod_eq_of_lt]
  exact a.toNat_lt
theorem toNat_u8 {n : Nat} (h : n < 256) : (UInt8.ofNat n).toNat = n := by
  rw [UInt8.toNat_ofNat', Nat.mod_eq_of_lt]; exact h
theorem dec_enc (c : Nat) (r : List UInt8) (h : val c = true) : dec (enc c ++ r) = (c, (enc c).length) := by
  rw [val_iff] at h
  unfold enc
  by_cases h1 : c < 128
  · rw [if_pos h1]
    have e0 : bt ([UInt8.ofNat c] ++ r) 0 = c := by simp only [bt, List.cons_append, List.nil_append, List.getD_cons_zero]; exact toNat_u8 (by omega)
    unfold dec
    rw [e0, if_pos h1]; rfl
  · rw [if_neg h1]
    by_cases h2 : c < 2048
    · rw [if_pos h2]
      have e0 : bt ([UInt8.ofNat (192 + c / 64), UInt8.ofNat (128 + c % 64)] ++ r) 0 = 192 + c / 64 := by simp only [bt, List.cons_append, List.nil_append, List.getD_cons_zero]; exact toNat_u8 (by omega)
      have e1 : bt ([UInt8.ofNat (192 + c / 64), UInt8.ofNat (128 + c % 64)] ++ r) 1 = 128 + c % 64 := by simp only [bt, List.cons_append, List.nil_append, List.getD_cons_zero, List.getD_cons_succ]; exact toNat_u8 (by omega)
      have t1 : ct ([UInt8.ofNat (192 + c / 64), UInt8.ofNat (128 + c % 64)] ++ r) 1 = true := by
        unfold ct; rw [e1]; simp; omega
      unfold dec
      rw [e0, e1, t1, if_neg (by omega), if_pos (by simp; omega), if_pos (by omega)]
      simp; omega
    · rw [if_neg h2]
      by_cases h3 : c < 65536
      · rw [if_pos h3]
        generalize hl : [UInt8.ofNat (224 + c / 4096), UInt8.ofNat (128 + c / 64 % 64), UInt8.ofNat (128 + c % 64)] ++ r = l
        have e0 : bt l 0 = 224 + c / 4096 := by rw [← hl]; simp only [bt, List.cons_append, List.nil_append, List.getD_cons_zero]; exact toNat_u8 (by omega)
        have e1 : bt l 1 = 128 + c / 64 % 64 := by rw [← hl]; simp only [bt, List.cons_append, List.nil_append, List.getD_cons_zero, List.getD_cons_succ]; exact toNat_u8 (by omega)
        have e2 : bt l 2 = 128 + c % 64 := by rw [← hl]; simp only [bt, List.cons_append, List.nil_append, List.getD_cons_zero, List.getD_cons_succ]; exact toNat_u8 (by omega)
        have hn : 3 ≤ l.length := by rw [← hl]; simp
        have t1 : ct l 1 = true := by unfold ct; rw [e1]; simp; omega
        have t2 : ct l 2 = true := by unfold ct; rw [e2]; simp; omega
        have ec : (224 + c / 4096) % 16 * 4096 + (128 + c / 64 % 64) % 64 * 64 + (128 + c % 64) % 64 = c := by omega
        have hv : val c = true := (val_iff c).2 h
        unfold dec
        rw [e0, e1, e2, t1, t2, if_neg (by omega), if_neg (by simp; omega), if_pos (by simp; omega), ec, hv, if_pos (by simp; omega)]
        rfl
      · rw [if_neg h3]
        generalize hl : [UInt8.ofNat (240 + c / 262144), UInt8.ofNat (128 + c / 4096 % 64), UInt8.ofNat (128 + c / 64 % 64), UInt8.ofNat (128 + c % 64)] ++ r = l
        have e0 : bt l 0 = 240 + c / 262144 := by rw [← hl]; simp only [bt, List.cons_append, List.nil_append, List.getD_cons_zero]; exact toNat_u8 (by omega)
        have e1 : bt l 1 = 128 + c / 4096 % 64 := by rw [← hl]; simp only [bt, List.cons_append, List.nil_append, List.getD_cons_zero, List.getD_cons_succ]; exact toNat_u8 (by omega)
        have e2 : bt l 2 = 128 + c / 64 % 64 := by rw [← hl]; simp only [bt, List.cons_append, List.nil_append, List.getD_cons_zero, List.getD_cons_succ]; exact toNat_u8 (by omega)
        have e3 : bt l 3 = 128 + c % 64 := by rw [← hl]; simp only [bt, List.cons_append, List.nil_append, List.getD_cons_zero, List.getD_cons_succ]; exact toNat_u8 (by omega)
        have hn : 4 ≤ l.length := by rw [← hl]; simp
        have t1 : ct l 1 = true := by unfold ct; rw [e1]; simp; omega
        have t2 : ct l 2 = true := by unfold ct; rw [e2]; simp; omega
        have t3 : ct l 3 = true := by unfold ct; rw [e3]; simp; omega
        have ec : (240 + c / 262144) % 8 * 262144 + (128 + c / 4096 % 64) % 64 * 4096 + (128 + c / 64 % 64) % 64 * 64 + (128 + c % 64) % 64 = c := by omega
        have hv : val c = true := (val_iff c).2 h
        unfold dec
        rw [e0, e1, e2, e3, t1, t2, t3, if_neg (by omega), if_neg (by simp; omega), if_neg (by simp; omega), if_pos (by simp; omega), ec, hv, if_pos (by simp; omega)]
        rfl
theorem list2 (l : List UInt8) (h : 1 < l.length) : ∃ b c t, l = b :: c :: t := by
  cases l with
  | nil => simp at h
  | cons b l => cases l with
    | nil => simp at h
    | cons c t => exact ⟨b, c, t, rfl⟩
theorem list3 (l : List UInt8) (h : 2 < l.length) : ∃ b c d t, l = b :: c :: d :: t := by
  obtain ⟨b, c, t, rfl⟩ := list2 l (by omega)
  cases t with
  | nil => simp at h
  | cons d t => exact ⟨b, c, d, t, rfl⟩
theorem enc_dec (l : List UInt8) (hl : l ≠ []) (h : dec l ≠ (65533, 1)) : val (dec l).1 = true ∧ l.take (dec l).2 = enc (dec l).1 ∧ (dec l).2 = (enc (dec l).1).length := by
  obtain ⟨a, l, rfl⟩ : ∃ a t, l = a :: t := by cases l with | nil => exact absurd rfl hl | cons a t => exact ⟨a, t, rfl⟩
  have ea : bt (a :: l) 0 = a.toNat := rfl
  have ha := a.toNat_lt
  unfold dec at h ⊢
  rw [ea] at h ⊢
  by_cases h1 : a.toNat < 128
  · rw [if_pos h1]
    refine ⟨(val_iff _).2 (by omega), ?_, ?_⟩ <;> simp only [enc, if_pos h1]
    · rw [← u8_eq (a := a) rfl]; rfl
    · rfl
  · rw [if_neg h1] at h ⊢
    by_cases h2 : (a.toNat / 32 == 6 && ct (a :: l) 1) = true
    · rw [if_pos h2] at h ⊢
      simp only [Bool.and_eq_true, beq_iff_eq, ct, decide_eq_true_eq] at h2
      obtain ⟨q1, q2, q3⟩ := h2
      obtain ⟨b, l, rfl⟩ : ∃ b t, l = b :: t := by cases l with | nil => simp at q2 | cons b t => exact ⟨b, t, rfl⟩
      have eb : bt (a :: b :: l) 1 = b.toNat := rfl
      rw [eb] at h q3 ⊢
      by_cases h3 : a.toNat % 32 * 64 + b.toNat % 64 ≥ 128
      · rw [if_pos h3]
        have hb := b.toNat_lt
        refine ⟨(val_iff _).2 (by simp only []; omega), ?_, ?_⟩
        · show [a, b] = _
          simp only [enc]
          rw [if_neg (by omega), if_pos (by omega), ← u8_eq (a := a) (by omega), ← u8_eq (a := b) (by omega)]
        · simp only [enc]
          rw [if_neg (by omega), if_pos (by omega)]; rfl
      · rw [if_neg h3] at h; exact absurd rfl h
    · rw [if_neg h2] at h ⊢
      by_cases h3 : (a.toNat / 16 == 14 && ct (a :: l) 1 && ct (a :: l) 2) = true
      · rw [if_pos h3] at h ⊢
        simp only [Bool.and_eq_true, beq_iff_eq, ct, decide_eq_true_eq] at h3
        obtain ⟨⟨q1, q2, q3⟩, q4, q5⟩ := h3
        obtain ⟨b, c, l, rfl⟩ := list2 l (by simp at q4; omega)
        have eb : bt (a :: b :: c :: l) 1 = b.toNat := rfl
        have ec : bt (a :: b :: c :: l) 2 = c.toNat := rfl
        rw [eb] at h q3 ⊢
        rw [ec] at h q5 ⊢
        by_cases h4 : (decide (a.toNat % 16 * 4096 + b.toNat % 64 * 64 + c.toNat % 64 ≥ 2048) && val (a.toNat % 16 * 4096 + b.toNat % 64 * 64 + c.toNat % 64)) = true
        · rw [if_pos h4]
          simp only [Bool.and_eq_true, decide_eq_true_eq] at h4
          have hb := b.toNat_lt
          have hc := c.toNat_lt
          refine ⟨h4.2, ?_, ?_⟩
          · show [a, b, c] = _
            simp only [enc]
            rw [if_neg (by omega), if_neg (by omega), if_pos (by omega), ← u8_eq (a := a) (by omega), ← u8_eq (a := b) (by omega), ← u8_eq (a := c) (by omega)]
          · simp only [enc]
            rw [if_neg (by omega), if_neg (by omega), if_pos (by omega)]; rfl
        · rw [if_neg h4] at h; exact absurd rfl h
      · rw [if_neg h3] at h ⊢
        by_cases h4 : (a.toNat / 8 == 30 && ct (a :: l) 1 && ct (a :: l) 2 && ct (a :: l) 3) = true
        · rw [if_pos h4] at h ⊢
          simp only [Bool.and_eq_true, beq_iff_eq, ct, decide_eq_true_eq] at h4
          obtain ⟨⟨⟨q1, q2, q3⟩, q4, q5⟩, q6, q7⟩ := h4
          obtain ⟨b, c, d, l, rfl⟩ := list3 l (by simp at q6; omega)
          have eb : bt (a :: b :: c :: d :: l) 1 = b.toNat := rfl
          have ec : bt (a :: b :: c :: d :: l) 2 = c.toNat := rfl
          have ed : bt (a :: b :: c :: d :: l) 3 = d.toNat := rfl
          rw [eb] at h q3 ⊢
          rw [ec] at h q5 ⊢
          rw [ed] at h q7 ⊢
          by_cases h5 : (decide (a.toNat % 8 * 262144 + b.toNat % 64 * 4096 + c.toNat % 64 * 64 + d.toNat % 64 ≥ 65536) && val (a.toNat % 8 * 262144 + b.toNat % 64 * 4096 + c.toNat % 64 * 64 + d.toNat % 64)) = true
          · rw [if_pos h5]
            simp only [Bool.and_eq_true, decide_eq_true_eq] at h5
            have hb := b.toNat_lt
            have hc := c.toNat_lt
            have hd := d.toNat_lt
            refine ⟨h5.2, ?_, ?_⟩
            · show [a, b, c, d] = _
              simp only [enc]
              rw [if_neg (by omega), if_neg (by omega), if_neg (by omega), ← u8_eq (a := a) (by omega), ← u8_eq (a := b) (by omega), ← u8_eq (a := c) (by omega), ← u8_eq (a := d) (by omega)]
            · simp only [enc]
              rw [if_neg (by omega), if_neg (by omega), if_neg (by omega)]; rfl
          · rw [if_neg h5] at h; exact absurd rfl h
        · rw [if_neg h4] at h; exact absurd rfl h
/-- from where on a text is not right -/
def bad : Nat → List UInt8 → Option Nat
  | 0, _ => none
  | f + 1, l => if l = [] then none else if dec l = (65533, 1) then some 0 else (bad f (l.drop (dec l).2)).map (· + (dec l).2)
/-- a text's characters (till it is not right) -/
def runes : Nat → List UInt8 → List Nat
  | 0, _ => []
  | f + 1, l => if l = [] then [] else if dec l = (65533, 1) then [] else (dec l).1 :: runes f (l.drop (dec l).2)
def encs (cs : List Nat) : List UInt8 := cs.flatMap enc
theorem enc_ne (c : Nat) : enc c ≠ [] := by unfold enc; repeat' split
                                            all_goals simp
theorem enc_pos (c : Nat) : 0 < (enc c).length := List.length_pos_iff.2 (enc_ne c)
theorem dec_enc_ok (c : Nat) (r : List UInt8) (h : val c = true) : dec (enc c ++ r) ≠ (65533, 1) := by
  rw [dec_enc c r h]
  intro he
  simp only [Prod.mk.injEq] at he
  obtain ⟨rfl, h2⟩ := he
  revert h2; decide
/-- a right text is the bytes of its characters -/
theorem split_ok (f : Nat) : ∀ l : List UInt8, l.length ≤ f → bad f l = none → encs (runes f l) = l ∧ ∀ c ∈ runes f l, val c = true := by
  induction f with
  | zero => intro l h _; have : l = [] := List.eq_nil_of_length_eq_zero (by omega); subst this; exact ⟨rfl, by intro c hc; cases hc⟩
  | succ f ih =>
    intro l h hb
    unfold bad at hb
    unfold runes
    by_cases hl : l = []
    · subst hl; exact ⟨rfl, by intro c hc; cases hc⟩
    · rw [if_neg hl] at hb ⊢
      by_cases hd : dec l = (65533, 1)
      · rw [if_pos hd] at hb; cases hb
      · rw [if_neg hd] at hb ⊢
        obtain ⟨v, t, n⟩ := enc_dec l hl hd
        have hp := dec_pos l
        have hlen : (l.drop (dec l).2).length ≤ f := by simp; omega
        have hb' : bad f (l.drop (dec l).2) = none := by simpa using hb
        obtain ⟨e, w⟩ := ih _ hlen hb'
        refine ⟨?_, ?_⟩
        · show enc (dec l).1 ++ encs (runes f (l.drop (dec l).2)) = l
          rw [e, ← t, List.take_append_drop]
        · intro c hc
          rcases List.mem_cons.1 hc with rfl | hc
          · exact v
          · exact w c hc
/-- and the bytes of right characters are a right text, and have them -/
theorem encs_ok (cs : List Nat) : ∀ f : Nat, (∀ c ∈ cs, val c = true) → (encs cs).length ≤ f → bad f (encs cs) = none ∧ runes f (encs cs) = cs := by
  induction cs with
  | nil => intro f _ _; cases f <;> simp [encs, bad, runes]
  | cons c cs ih =>
    intro f hv hf
    have e : encs (c :: cs) = enc c ++ encs cs := rfl
    have hp := enc_pos c
    rw [e] at hf ⊢
    cases f with
    | zero => rw [List.length_append] at hf; omega
    | succ f =>
      have hne : enc c ++ encs cs ≠ [] := by simp [enc_ne c]
      have hd := dec_enc c (encs cs) (hv c List.mem_cons_self)
      have hok := dec_enc_ok c (encs cs) (hv c List.mem_cons_self)
      obtain ⟨i1, i2⟩ := ih f (fun x hx => hv x (List.mem_cons_of_mem _ hx)) (by simp at hf; omega)
      unfold bad runes
      rw [if_neg hne, if_neg hok, if_neg hne, if_neg hok, hd]
      simp only [List.drop_left]
      rw [i1, i2]; exact ⟨rfl, rfl⟩
/-- the fuel does not matter -/
theorem bad_fuel (f : Nat) : ∀ (g : Nat) (l : List UInt8), l.length ≤ f → l.length ≤ g → bad f l = bad g l := by
  induction f with
  | zero => intro g l h _; have : l = [] := List.eq_nil_of_length_eq_zero (by omega); subst this; cases g <;> simp [bad]
  | succ f ih =>
    intro g l h hg
    cases g with
    | zero => have : l = [] := List.eq_nil_of_length_eq_zero (by omega); subst this; simp [bad]
    | succ g =>
      unfold bad
      have hp := dec_pos l
      by_cases hl : l = []
      · rw [if_pos hl, if_pos hl]
      · rw [if_neg hl, if_neg hl]
        have : 0 < l.length := List.length_pos_iff.2 hl
        rw [ih g (l.drop (dec l).2) (by simp; omega) (by simp; omega)]
theorem runes_fuel (f : Nat) : ∀ (g : Nat) (l : List UInt8), l.length ≤ f → l.length ≤ g → runes f l = runes g l := by
  induction f with
  | zero => intro g l h _; have : l = [] := List.eq_nil_of_length_eq_zero (by omega); subst this; cases g <;> simp [runes]
  | succ f ih =>
    intro g l h hg
    cases g with
    | zero => have : l = [] := List.eq_nil_of_length_eq_zero (by omega); subst this; simp [runes]
    | succ g =>
      unfold runes
      have hp := dec_pos l
      by_cases hl : l = []
      · rw [if_pos hl, if_pos hl]
      · rw [if_neg hl, if_neg hl]
        have : 0 < l.length := List.length_pos_iff.2 hl
        rw [ih g (l.drop (dec l).2) (by simp; omega) (by simp; omega)]
/-- right characters ahead change nothing of what is behind -/
theorem bad_behind (cs : List Nat) (t : List UInt8) (hv : ∀ c ∈ cs, val c = true) :
    ∀ f, (encs cs ++ t).length ≤ f → bad f (encs cs ++ t) = (bad f t).map (· + (encs cs).length) := by
  induction cs with
  | nil => intro f _; simp [encs]
  | cons c cs ih =>
    intro f hf
    have e : encs (c :: cs) ++ t = enc c ++ (encs cs ++ t) := by simp [encs]
    have hp := enc_pos c
    rw [e] at hf ⊢
    cases f with
    | zero => rw [List.length_append] at hf; omega
    | succ f =>
      have hne : enc c ++ (encs cs ++ t) ≠ [] := by simp [enc_ne c]
      have hd := dec_enc c (encs cs ++ t) (hv c List.mem_cons_self)
      have hok := dec_enc_ok c (encs cs ++ t) (hv c List.mem_cons_self)
      have hlen : (encs cs ++ t).length ≤ f := by simp at hf ⊢; omega
      have i1 := ih (fun x hx => hv x (List.mem_cons_of_mem _ hx)) f hlen
      rw [bad, if_neg hne, if_neg hok, hd]
      simp only [List.drop_left]
      rw [i1, bad_fuel f (f + 1) t (by simp at hlen; omega) (by simp at hlen; omega)]
      cases bad (f + 1) t with
      | none => rfl
      | some k => simp [encs]; omega
/-- what is ahead of the place that is told is right -/
theorem bad_split (f : Nat) : ∀ (l : List UInt8) (k : Nat), l.length ≤ f → bad f l = some k →
    k < l.length ∧ dec (l.drop k) = (65533, 1) ∧ ∃ cs, (∀ c ∈ cs, val c = true) ∧ l.take k = encs cs := by
  induction f with
  | zero => intro l k h hb; simp [bad] at hb
  | succ f ih =>
    intro l k h hb
    rw [bad] at hb
    by_cases hl : l = []
    · rw [if_pos hl] at hb; cases hb
    · rw [if_neg hl] at hb
      have h0 : 0 < l.length := List.length_pos_iff.2 hl
      by_cases hd : dec l = (65533, 1)
      · rw [if_pos hd] at hb
        obtain rfl : 0 = k := Option.some.inj hb
        exact ⟨h0, by simpa using hd, [], by intro c hc; (cases hc), by simp [encs]⟩
      · rw [if_neg hd] at hb
        obtain ⟨v, t, n⟩ := enc_dec l hl hd
        have hp := dec_pos l
        cases hk : bad f (l.drop (dec l).2) with
        | none => rw [hk] at hb; cases hb
        | some j =>
          rw [hk] at hb
          obtain rfl : j + (dec l).2 = k := Option.some.inj hb
          obtain ⟨a1, a2, cs, a3, a4⟩ := ih _ j (by simp; omega) hk
          refine ⟨by simp at a1; omega, by rw [List.drop_drop] at a2; rw [Nat.add_comm]; exact a2, (dec l).1 :: cs, ?_, ?_⟩
          · intro c hc
            rcases List.mem_cons.1 hc with rfl | hc
            · exact v
            · exact a3 c hc
          · show _ = enc (dec l).1 ++ encs cs
            rw [← a4, ← t, Nat.add_comm, List.take_add]
/-! the reference's first character: its length by its first byte, its number, and whether it is written so -/
def nOf (l : List UInt8) : Nat := if bt l 0 ≥ 240 then 4 else if bt l 0 ≥ 224 then 3 else if bt l 0 ≥ 192 then 2 else 1
def vOf (l : List UInt8) : Nat :=
  if bt l 0 ≥ 240 then 64 * (64 * (64 * (bt l 0 - 240) + bt l 1 % 64) + bt l 2 % 64) + bt l 3 % 64
  else if bt l 0 ≥ 224 then 64 * (64 * (bt l 0 - 224) + bt l 1 % 64) + bt l 2 % 64
  else if bt l 0 ≥ 192 then 64 * (bt l 0 - 192) + bt l 1 % 64
  else bt l 0
def fC (l : List UInt8) : Nat := if l = [] then 0 else if dec l = (65533, 1) then 0 else (dec l).1
def fN (l : List UInt8) : Nat := if l = [] then 0 else if dec l = (65533, 1) then 0 else (dec l).2
theorem bt_append (a b : List UInt8) (k : Nat) (h : k < a.length) : bt (a ++ b) k = bt a k := by
  unfold bt
  simp only [List.getD_eq_getElem?_getD]
  rw [List.getElem?_append_left h]
theorem enc_first (c : Nat) (r : List UInt8) (h : val c = true) : nOf (enc c ++ r) = (enc c).length ∧ vOf (enc c ++ r) = c := by
  rw [val_iff] at h
  unfold nOf vOf enc
  by_cases h1 : c < 128
  · rw [if_pos h1]
    have e0 : bt ([UInt8.ofNat c] ++ r) 0 = c := by simp only [bt, List.cons_append, List.nil_append, List.getD_cons_zero]; exact toNat_u8 (by omega)
    rw [e0, if_neg (by omega), if_neg (by omega), if_neg (by omega), if_neg (by omega), if_neg (by omega), if_neg (by omega)]; exact ⟨rfl, rfl⟩
  · rw [if_neg h1]
    by_cases h2 : c < 2048
    · rw [if_pos h2]
      generalize hl : [UInt8.ofNat (192 + c / 64), UInt8.ofNat (128 + c % 64)] ++ r = l
      have e0 : bt l 0 = 192 + c / 64 := by rw [← hl]; simp only [bt, List.cons_append, List.nil_append, List.getD_cons_zero]; exact toNat_u8 (by omega)
      have e1 : bt l 1 = 128 + c % 64 := by rw [← hl]; simp only [bt, List.cons_append, List.nil_append, List.getD_cons_zero, List.getD_cons_succ]; exact toNat_u8 (by omega)
      rw [e0, e1, if_neg (by omega), if_neg (by omega), if_pos (by omega), if_neg (by omega), if_neg (by omega), if_pos (by omega)]
      exact ⟨rfl, by omega⟩
    · rw [if_neg h2]
      by_cases h3 : c < 65536
      · rw [if_pos h3]
        generalize hl : [UInt8.ofNat (224 + c / 4096), UInt8.ofNat (128 + c / 64 % 64), UInt8.ofNat (128 + c % 64)] ++ r = l
        have e0 : bt l 0 = 224 + c / 4096 := by rw [← hl]; simp only [bt, List.cons_append, List.nil_append, List.getD_cons_zero]; exact toNat_u8 (by omega)
        have e1 : bt l 1 = 128 + c / 64 % 64 := by rw [← hl]; simp only [bt, List.cons_append, List.nil_append, List.getD_cons_zero, List.getD_cons_succ]; exact toNat_u8 (by omega)
        have e2 : bt l 2 = 128 + c % 64 := by rw [← hl]; simp only [bt, List.cons_append, List.nil_append, List.getD_cons_zero, List.getD_cons_succ]; exact toNat_u8 (by omega)
        rw [e0, e1, e2, if_neg (by omega), if_pos (by omega), if_neg (by omega), if_pos (by omega)]
        exact ⟨rfl, by omega⟩
      · rw [if_neg h3]
        generalize hl : [UInt8.ofNat (240 + c / 262144), UInt8.ofNat (128 + c / 4096 % 64), UInt8.ofNat (128 + c / 64 % 64), UInt8.ofNat (128 + c % 64)] ++ r = l
        have e0 : bt l 0 = 240 + c / 262144 := by rw [← hl]; simp only [bt, List.cons_append, List.nil_append, List.getD_cons_zero]; exact toNat_u8 (by omega)
        have e1 : bt l 1 = 128 + c / 4096 % 64 := by rw [← hl]; simp only [bt, List.cons_append, List.nil_append, List.getD_cons_zero, List.getD_cons_succ]; exact toNat_u8 (by omega)
        have e2 : bt l 2 = 128 + c / 64 % 64 := by rw [← hl]; simp only [bt, List.cons_append, List.nil_append, List.getD_cons_zero, List.getD_cons_succ]; exact toNat_u8 (by omega)
        have e3 : bt l 3 = 128 + c % 64 := by rw [← hl]; simp only [bt, List.cons_append, List.nil_append, List.getD_cons_zero, List.getD_cons_succ]; exact toNat_u8 (by omega)
        rw [e0, e1, e2, e3, if_pos (by omega), if_pos (by omega)]
        exact ⟨rfl, by omega⟩
theorem first_yes (l : List UInt8) (hl : l ≠ []) (hv : val (vOf l) = true) (he : enc (vOf l) = l.take (nOf l)) (hn : nOf l ≤ l.length) : fC l = vOf l ∧ fN l = nOf l := by
  have hlen : (enc (vOf l)).length = nOf l := by rw [he, List.length_take]; omega
  have hs : l = enc (vOf l) ++ l.drop (nOf l) := by rw [he, List.take_append_drop]
  have hd := dec_enc (vOf l) (l.drop (nOf l)) hv
  have ho := dec_enc_ok (vOf l) (l.drop (nOf l)) hv
  rw [← hs] at hd ho
  unfold fC fN
  rw [if_neg hl, if_neg hl, if_neg ho, if_neg ho, hd, hlen]; exact ⟨rfl, rfl⟩
theorem first_no (l : List UInt8) (h : nOf l ≤ l.length → val (vOf l) = true → enc (vOf l) ≠ l.take (nOf l)) : fC l = 0 ∧ fN l = 0 := by
  unfold fC fN
  by_cases hl : l = []
  · rw [if_pos hl, if_pos hl]; exact ⟨rfl, rfl⟩
  · rw [if_neg hl, if_neg hl]
    by_cases hd : dec l = (65533, 1)
    · rw [if_pos hd, if_pos hd]; exact ⟨rfl, rfl⟩
    · exfalso
      obtain ⟨v, t, n⟩ := enc_dec l hl hd
      have hs : l = enc (dec l).1 ++ l.drop (dec l).2 := by rw [← t, List.take_append_drop]
      have hf := enc_first (dec l).1 (l.drop (dec l).2) v
      rw [← hs] at hf
      rw [hf.1, hf.2, ← n] at h
      have hlen : (dec l).2 ≤ l.length := by
        have := congrArg List.length hs
        simp at this; omega
      exact h hlen v t.symm
/-- in the walk's own words -/
theorem bt_get (t : ByteArray) (k : Nat) (h : k < t.size) : bt t.data.toList k = (t[k]'h).toNat := by
  have e := bt_drop t 0 k
  rw [List.drop_zero, Nat.zero_add] at e
  rw [e]
  congr 1
  show t.get! k = t[k]
  simp [ByteArray.get!, getElem!_pos, h]
  rfl
/-! the same, without fuel -/
def B (l : List UInt8) : Option Nat := bad l.length l
def R (l : List UInt8) : List Nat := runes l.length l
theorem B_nil : B [] = none := rfl
theorem R_nil : R [] = [] := rfl
theorem B_bad (l : List UInt8) (hl : l ≠ []) (h : dec l = (65533, 1)) : B l = some 0 := by
  have := List.length_pos_iff.2 hl
  obtain ⟨n, hn⟩ : ∃ n, l.length = n + 1 := ⟨l.length - 1, by omega⟩
  unfold B; rw [hn, bad, if_neg hl, if_pos h]
theorem B_step (l : List UInt8) (hl : l ≠ []) (h : dec l ≠ (65533, 1)) : B l = (B (l.drop (dec l).2)).map (· + (dec l).2) := by
  have := List.length_pos_iff.2 hl
  have hp := dec_pos l
  obtain ⟨n, hn⟩ : ∃ n, l.length = n + 1 := ⟨l.length - 1, by omega⟩
  unfold B; rw [hn, bad, if_neg hl, if_neg h, bad_fuel n (l.drop (dec l).2).length _ (by simp; omega) (Nat.le_refl _)]
theorem R_bad (l : List UInt8) (hl : l ≠ []) (h : dec l = (65533, 1)) : R l = [] := by
  have := List.length_pos_iff.2 hl
  obtain ⟨n, hn⟩ : ∃ n, l.length = n + 1 := ⟨l.length - 1, by omega⟩
  unfold R; rw [hn, runes, if_neg hl, if_pos h]
theorem R_step (l : List UInt8) (hl : l ≠ []) (h : dec l ≠ (65533, 1)) : R l = (dec l).1 :: R (l.drop (dec l).2) := by
  have := List.length_pos_iff.2 hl
  have hp := dec_pos l
  obtain ⟨n, hn⟩ : ∃ n, l.length = n + 1 := ⟨l.length - 1, by omega⟩
  unfold R; rw [hn, runes, if_neg hl, if_neg h, runes_fuel n (l.drop (dec l).2).length _ (by simp; omega) (Nat.le_refl _)]
theorem dec_le_len (l : List UInt8) (hl : l ≠ []) : (dec l).2 ≤ l.length := by
  have h0 := List.length_pos_iff.2 hl
  by_cases hd : dec l = (65533, 1)
  · rw [hd]; exact h0
  · obtain ⟨v, t, n⟩ := enc_dec l hl hd
    have := congrArg List.length t
    rw [List.length_take, ← n] at this; omega
theorem R_len (f : Nat) : ∀ l : List UInt8, (runes f l).length ≤ l.length := by
  induction f with
  | zero => intro l; simp [runes]
  | succ f ih =>
    intro l
    unfold runes
    split
    · simp
    · split
      · simp
      · rename_i h1 h2
        have := ih (l.drop (dec l).2)
        have hp := dec_pos l
        have h0 := List.length_pos_iff.2 h1
        simp at this ⊢; omega
theorem R_length (l : List UInt8) : (R l).length ≤ l.length := R_len _ l
def chkI (l : List UInt8) : Nat := (B l).getD 0
def chkE (l : List UInt8) : Int := if (B l).isSome then 11 else 0
/-- the sign that stands for what is not right, itself -/
def pre (l : List UInt8) : Bool := l.take 3 == [239, 191, 189]
theorem enc_fffd : enc 65533 = [239, 191, 189] := by decide
theorem pre_of (l : List UInt8) (hl : l ≠ []) (h : (dec l).1 = 65533) (hd : dec l ≠ (65533, 1)) : pre l = true := by
  obtain ⟨v, t, n⟩ := enc_dec l hl hd
  rw [h, enc_fffd] at t n
  have n3 : (dec l).2 = 3 := n
  rw [n3] at t
  unfold pre; rw [t]; rfl
theorem pre_not (l : List UInt8) (hd : dec l = (65533, 1)) : pre l = false := by
  cases hp : pre l
  · rfl
  · exfalso
    unfold pre at hp
    have hp' : l.take 3 = enc 65533 := by rw [enc_fffd]; simpa using hp
    have hs : l = enc 65533 ++ l.drop 3 := by rw [← hp', List.take_append_drop]
    have h2 := dec_enc 65533 (l.drop 3) (by decide)
    rw [← hs, hd, enc_fffd] at h2
    simp at h2
end Go.Proofs.YtgflodjohaemiaaDoor.Utf
