/-
  WHEN RULES OCCUR, THE PLAIN LAWS: an event that is alone at its time; a rule that is parted at a year; how many occur in years.
-/
import Derived.Test.YtoklcbkphipmkaaDoorOcN
namespace Go.Proofs.YtoklcbkphipmkaaDoor.Oc
open Go.Proofs.YtoklcbkphipmkaaDoor.Sr
open Go.Proofs.YtoklcbkphipmkaaDoor.Mo (nomV nomE mE)
open Go.Proofs.YtoklcbkphipmkaaDoor.Va (RuOk)
open Go.Proofs.YtoklcbkphipmkaaDoor.Clk (yrV yrE)
set_option linter.unusedVariables false
set_option linter.unusedSimpArgs false
theorem yr_bd {t : Int} (h : yrE t = 0) : Cal.first (yrV t) ≤ t / 86400 ∧ t / 86400 < Cal.first (yrV t + 1) ∧ 1 ≤ yrV t ∧ yrV t ≤ 9999 := by
  unfold yrE Cal.ofE at h
  have hn : Cal.okN (t / 86400) = true := by
    by_cases q : Cal.okN (t / 86400) = true
    · exact q
    · rw [if_neg q] at h; cases h
  have hb := (Cal.okN_iff _).1 hn
  have hd := Cal.day_ok _ hb.1 hb.2
  have hnum := Cal.day_num (t / 86400)
  have hb2 := Cal.num_bd _ _ _ hd
  rw [hnum] at hb2
  have h3 := (Cal.okD_iff _ _ _).1 hd
  unfold yrV Cal.ofYV
  rw [if_pos hn]
  exact ⟨hb2.1, hb2.2, h3.1, h3.2.1⟩
theorem first_lt {a b : Int} (h : Cal.first a < Cal.first b) : a < b := by
  rcases Int.lt_or_le a b with q | q
  · exact q
  · have := Cal.first_mono b a q; omega
theorem yr_ok {y t : Int} (h1 : 1600 ≤ y) (h2 : y ≤ 2090) (h3 : (Cal.first y - 13) * 86400 ≤ t) (h4 : t ≤ (Cal.first (y + 1) + 13) * 86400) : yrE t = 0 := by
  have e1 := Cal.first_mono 1600 y h1
  have e2 := Cal.first_mono (y + 1) 2091 (by omega)
  have e3 : Cal.first 1600 = -135140 := by decide
  have e4 : Cal.first 2091 = 44195 := by decide
  rw [e3] at e1; rw [e4] at e2
  unfold yrE Cal.ofE
  rw [if_pos ((Cal.okN_iff _).2 (by omega))]
/-- an event that is alone at its time -/
def Alone (rs : List Ru) (x : Pe) : Prop := ∀ e, Occ rs e → rT rs e = rT rs x → e = x
theorem top_ge {t y : Int} (h : yrE t = 0) (hy : y ≤ 9999) (ht : (Cal.first y - 13) * 86400 < t) : y ≤ topV t := by
  have hb := yr_bd h
  rw [topV_0 h]
  have h1 : Cal.first y < Cal.first (yrV t + 1 + 1) := by
    have := Cal.first_mono (yrV t + 1) (yrV t + 1 + 1) (by omega)
    omega
  have := first_lt h1
  omega
theorem ql {rs : List Ru} {t : Int} {e : Pe} : Ql rs t e ↔ rT rs e < t := by unfold Ql; exact decide_eq_true_iff
theorem qt {rs : List Ru} {x e : Pe} : Qt rs x e ↔ ltE rs e x := by unfold Qt; rw [decide_eq_true_iff, ordV_lt]
theorem alone_at {rs : List Ru} {x : Pe} {b : Option Pe} (hx : Occ rs x) (ha : Alone rs x) (h1 : 1600 ≤ x.2) (h2 : x.2 ≤ 2090) (h : LastP rs (topV (rT rs x + 1)) (Ql rs (rT rs x + 1)) b) : b = some x := by
  have hn := occ_near hx
  have hy : yrE (rT rs x + 1) = 0 := yr_ok h1 h2 (by omega) (by omega)
  have ht : x.2 ≤ topV (rT rs x + 1) := top_ge hy (by omega) (by omega)
  have hq : Ql rs (rT rs x + 1) x := ql.2 (by omega)
  cases b with
  | none => exact absurd hq (h x hx ht)
  | some b =>
    have h3 := ql.1 h.2.2.1
    have h4 := h.2.2.2 x hx ht hq
    have h5 : rT rs b = rT rs x := by unfold ltE at h4; omega
    rw [ha b h.1 h5]
theorem alone_before {rs : List Ru} {x : Pe} {b b' : Option Pe} (hok : Ok rs) (hx : Occ rs x) (ha : Alone rs x) (h1 : 1600 ≤ x.2) (h2 : x.2 ≤ 2090) (h : LastP rs (topV (rT rs x)) (Ql rs (rT rs x)) b) (h' : LastP rs (x.2 + 1) (Qt rs x) b') : svV rs b = svV rs b' := by
  have hn := occ_near hx
  have hy : yrE (rT rs x) = 0 := yr_ok h1 h2 (by omega) (by omega)
  refine last_same h h' fun e he => ?_
  rw [ql, qt]
  have hne := occ_near he
  have hey := occ_year hok he
  constructor
  · rintro ⟨_, q⟩
    refine ⟨?_, .inl q⟩
    rcases Int.lt_or_le (x.2 + 1) e.2 with g | g
    · have := far hx he (by omega); unfold ltE at this; omega
    · exact g
  · rintro ⟨_, q⟩
    have ht : rT rs e < rT rs x := by
      rcases q with q | ⟨q, q2⟩
      · exact q
      · have := ha e he q; subst this; omega
    exact ⟨top_ge hy (by omega) (by omega), ht⟩
/-- how many of a list have a time -/
def cnt (l : List Int) (t : Int) : Nat := (l.filter fun x => decide (x = t)).length
theorem cnt_app (l k : List Int) (t : Int) : cnt (l ++ k) t = cnt l t + cnt k t := by unfold cnt; rw [List.filter_append, List.length_append]
theorem cnt_le (l : List Int) (t : Int) : cnt l t ≤ l.length := List.length_filter_le _ _
theorem cnt_one {l : List Pe} {rs : List Ru} {t : Int} (h : cnt (l.map (rT rs)) t = 1) {a b : Pe} (ha : a ∈ l) (hb : b ∈ l) (h1 : rT rs a = t) (h2 : rT rs b = t) : a = b := by
  have h3 : (l.filter fun x => decide (rT rs x = t)).length = 1 := by
    unfold cnt at h; rw [List.filter_map, List.length_map] at h; exact h
  obtain ⟨z, hz⟩ := List.length_eq_one_iff.1 h3
  have e1 : a ∈ l.filter fun x => decide (rT rs x = t) := List.mem_filter.2 ⟨ha, decide_eq_true h1⟩
  have e2 : b ∈ l.filter fun x => decide (rT rs x = t) := List.mem_filter.2 ⟨hb, decide_eq_true h2⟩
  rw [hz] at e1 e2
  rw [List.mem_singleton.1 e1, List.mem_singleton.1 e2]
/-- who is alone among three years is alone of all -/
theorem alone_of {rs : List Ru} {y : Int} {L1 L2 L3 : List Pe} (h1 : IsY rs (y - 1) L1) (h2 : IsY rs y L2) (h3 : IsY rs (y + 1) L3) {x : Pe} (hx : x ∈ L2) (hc : cnt ((L1 ++ (L2 ++ L3)).map (rT rs)) (rT rs x) = 1) : Alone rs x := by
  intro e he het
  have hxo := h2.mem.1 hx
  have n1 := occ_near he; have n2 := occ_near hxo.1
  have a1 : ¬ e.2 ≤ x.2 - 2 := fun q => by have := far he hxo.1 q; unfold ltE at this; rcases this with g | g; omega; exact absurd het (by
    have h1 := n1.2; have h2 := n2.1
    have h3 := Cal.first_mono (e.2 + 1) x.2 (by omega)
    omega)
  have a2 : ¬ x.2 ≤ e.2 - 2 := fun q => absurd het (by
    have h1 := n2.2; have h2 := n1.1
    have h3 := Cal.first_mono (x.2 + 1) e.2 (by omega)
    omega)
  have hm : e ∈ L1 ++ (L2 ++ L3) := by
    rw [List.mem_append, List.mem_append, h1.mem, h2.mem, h3.mem]
    rcases (show e.2 = y - 1 ∨ e.2 = y ∨ e.2 = y + 1 by omega) with q | q | q
    · exact .inl ⟨he, q⟩
    · exact .inr (.inl ⟨he, q⟩)
    · exact .inr (.inr ⟨he, q⟩)
  exact cnt_one hc hm (List.mem_append.2 (.inr (List.mem_append.2 (.inl hx)))) het rfl
/-- a day that is there in some year is there in a leap year -/
theorem leap_yes {y m k n dw s c : Int} (h : nomE y m k n dw s c = 0) : nomE 2000 m k n dw s c = 0 := by
  have hm : mE s c = 0 ∨ mE s c = 2 := by unfold mE; split <;> simp
  have h0 := h
  unfold nomE at h ⊢
  rcases hm.symm with hm | hm
  · rw [hm, if_pos rfl] at h; cases h
  rw [hm, if_neg (by decide)] at h ⊢
  have hi : Dy.inE k n dw y m = 0 := by
    by_cases q : Dy.inE k n dw y m = 0
    · exact q
    · rw [if_pos q] at h; exact h
  rw [if_neg (by rw [hi]; decide)] at h
  have ha : Clk.atOk (Dy.inV k n dw y m) s = true := by
    unfold Clk.atE at h
    by_cases q : Clk.atOk (Dy.inV k n dw y m) s = true
    · exact q
    · rw [if_neg q] at h; cases h
  unfold Clk.atOk at ha
  rw [Bool.and_eq_true] at ha
  have hs := ha.2
  have hi2 := hi
  unfold Dy.inE at hi
  have hd : Dy.dE k n dw = 0 ∨ Dy.dE k n dw = 2 := by unfold Dy.dE; split <;> simp
  rcases hd.symm with hd | hd
  · rw [hd, if_pos rfl] at hi; cases hi
  rw [hd, if_neg (by decide)] at hi
  have hl : Cal.lenE y m ≠ 1 := fun q => by rw [if_pos q] at hi; cases hi
  rw [if_neg hl] at hi
  have hn : ¬ Cal.mlen y m < n := fun q => by rw [if_pos q] at hi; cases hi
  have hok : Cal.okYM y m = true := by
    by_cases q : Cal.okYM y m = true
    · exact q
    · exact absurd (by unfold Cal.lenE; rw [if_neg q]) hl
  have hym := (Cal.okYM_iff y m).1 hok
  have hok2 : Cal.okYM 2000 m = true := (Cal.okYM_iff 2000 m).2 ⟨by decide, by decide, hym.2.2.1, hym.2.2.2⟩
  have hl2 : Cal.lenE 2000 m ≠ 1 := by unfold Cal.lenE; rw [if_pos hok2]; decide
  have hlp : Cal.leap 2000 = true := by decide
  have hml : Cal.mlen y m ≤ Cal.mlen 2000 m := by
    unfold Cal.mlen; rw [hlp]
    by_cases q : m = 2
    · rw [if_pos q, if_pos q, if_pos rfl]; split <;> omega
    · rw [if_neg q, if_neg q]; omega
  have hdd : Dy.dOk k n dw = true := by
    unfold Dy.dE at hd
    by_cases q : Dy.dOk k n dw = true
    · exact q
    · rw [if_neg q] at hd; cases hd
  have hD : Cal.okD 2000 m (Dy.inOf k n 2000 m) = true := by
    rw [Cal.okD_iff]
    have hb := Cal.mlen_bd 2000 m
    unfold Dy.dOk at hdd
    rw [decide_eq_true_iff] at hdd
    unfold Dy.dLo at hdd
    unfold Dy.inOf
    by_cases q : k = 1
    · rw [if_pos q]; omega
    · rw [if_neg q] at hdd ⊢; omega
  have hb := Cal.num_bd 2000 m _ hD
  have f1 : Cal.first 2000 = 10957 := by decide
  have f2 : Cal.first (2000 + 1) = 11323 := by decide
  rw [f1, f2] at hb
  have hN : Cal.okN (Dy.inN k n dw 2000 m) = true := by
    rw [Cal.okN_iff]
    unfold Dy.inN
    dsimp only
    have e1 := Int.emod_nonneg (dw - Cal.wday (Cal.num 2000 m (Dy.inOf k n 2000 m))) (show (7 : Int) ≠ 0 by decide)
    have e2 := Int.emod_lt_of_pos (dw - Cal.wday (Cal.num 2000 m (Dy.inOf k n 2000 m))) (show (0 : Int) < 7 by decide)
    have e3 := Int.emod_nonneg (Cal.wday (Cal.num 2000 m (Dy.inOf k n 2000 m)) - dw) (show (7 : Int) ≠ 0 by decide)
    have e4 := Int.emod_lt_of_pos (Cal.wday (Cal.num 2000 m (Dy.inOf k n 2000 m)) - dw) (show (0 : Int) < 7 by decide)
    generalize Cal.num 2000 m (Dy.inOf k n 2000 m) = b at *
    generalize (dw - Cal.wday b) % 7 = p at *
    generalize (Cal.wday b - dw) % 7 = q at *
    split
    · omega
    · split <;> omega
  have hin : Dy.inE k n dw 2000 m = 0 := by
    unfold Dy.inE
    rw [hd, if_neg (by decide), if_neg hl2, if_neg (by omega), if_pos hN]
  rw [if_neg (by rw [hin]; decide)]
  unfold Clk.atE Clk.atOk
  rw [Dy.inV_yes hin, if_pos (by rw [hN, hs]; rfl)]
/-- one rule -/
def one (r : Ru) (y : Int) : Prop := r.fr ≤ y ∧ y ≤ r.tt ∧ nomE y r.mo r.kd r.dn r.dw r.sec r.ck = 0
noncomputable instance (r : Ru) (y : Int) : Decidable (one r y) := inferInstanceAs (Decidable (_ ∧ _ ∧ _))
theorem occ_one {r : Ru} {e : Pe} : Occ [r] e ↔ e.1 = 0 ∧ one r e.2 := by
  constructor
  · intro h
    have h1 := pls_lt h.p
    have h0 : e.1 = 0 := by simp at h1; exact h1
    have h2 := h.y; have h3 := h.e
    unfold rE at h3
    rw [h0] at h2 h3
    exact ⟨h0, h2.1, h2.2, h3⟩
  · rintro ⟨h0, h1, h2, h3⟩
    refine ⟨?_, by rw [h0]; exact ⟨h1, h2⟩, by unfold rE; rw [h0]; exact h3⟩
    rw [h0]
    exact List.mem_filter.2 ⟨List.mem_range.2 Nat.zero_lt_one, decide_eq_true (show rE [r] (0, 2000) = 0 from leap_yes h3)⟩
theorem one_year {r : Ru} {y : Int} {L : List Pe} (h : IsY [r] y L) : L = if one r y then [(0, y)] else [] := by
  have hn : (rawY [r] y).length ≤ 1 := raw_len [r] y
  rw [← h.pm.length_eq] at hn
  by_cases q : one r y
  · rw [if_pos q]
    have hm : ((0, y) : Pe) ∈ L := h.mem.2 ⟨occ_one.2 ⟨rfl, q⟩, rfl⟩
    match L, hn, hm with
    | [a], _, hm => rw [List.mem_singleton.1 hm]
    | a :: b :: l, hn, _ => simp at hn
  · rw [if_neg q]
    match L, h with
    | [], _ => rfl
    | a :: l, h =>
      have hm := h.mem.1 (List.mem_cons_self : a ∈ a :: l)
      have := (occ_one.1 hm.1).2
      rw [hm.2] at this
      exact absurd this q
theorem one_raw (r : Ru) (y : Int) : (rawY [r] y).length = if one r y then 1 else 0 := by
  have hm : ∀ e, e ∈ rawY [r] y ↔ (e.1 = 0 ∧ one r e.2) ∧ e.2 = y := fun e => by rw [mem_raw, occ_one]
  have hn : (rawY [r] y).length ≤ 1 := raw_len [r] y
  by_cases q : one r y
  · rw [if_pos q]
    have : ((0, y) : Pe) ∈ rawY [r] y := (hm _).2 ⟨⟨rfl, q⟩, rfl⟩
    have := List.length_pos_of_mem this
    omega
  · rw [if_neg q]
    match hl : rawY [r] y with
    | [] => rfl
    | a :: l =>
      have := (hm a).1 (by rw [hl]; exact List.mem_cons_self)
      rw [this.2] at this
      exact absurd this.1.2 q
/-- how many occur in the first ones of some years -/
def sumY (rs : List Ru) (lo : Int) : Nat → Nat
  | 0 => 0
  | k + 1 => sumY rs lo k + (rawY rs (lo + k)).length
theorem sumY_le (rs : List Ru) (lo : Int) (k : Nat) : sumY rs lo k ≤ rs.length * k := by
  induction k with
  | zero => exact Nat.zero_le _
  | succ k ih => have := raw_len rs (lo + k); show sumY rs lo k + _ ≤ _; rw [Nat.mul_succ]; omega
end Go.Proofs.YtoklcbkphipmkaaDoor.Oc
