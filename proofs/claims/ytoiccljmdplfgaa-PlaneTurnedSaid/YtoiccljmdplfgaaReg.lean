/-
  A REGION THAT DRAWS ITS ORDER, BY WHAT HOLDS OF ITS STATE: each operation is shown once, whatever came up ahead of it.
-/
import Derived.RegionTactic
import Derived.Test.YtoiccljmdplfgaaWords
namespace Go.Proofs.Ytoiccljmdplfgaa.Reg
open Go
set_option linter.unusedVariables false
def upd (L : Nat → Bool) (i : Nat) : Nat → Bool := fun j => if j = i then true else L j
theorem upd_at (L : Nat → Bool) (i j : Nat) : upd L i j = if j = i then true else L j := rfl
def left (L : Nat → Bool) : Nat → Nat
  | 0 => 0
  | n + 1 => left L n + if L n = true then 0 else 1
theorem left_le (L : Nat → Bool) : ∀ n, left L n ≤ n
  | 0 => Nat.le_refl _
  | n + 1 => by have := left_le L n; unfold left; split <;> omega
theorem left_ge {L : Nat → Bool} {i : Nat} : ∀ n, n ≤ i → left (upd L i) n = left L n
  | 0, _ => rfl
  | n + 1, h => by unfold left; rw [left_ge n (by omega), upd_at, if_neg (show ¬ n = i by omega)]
theorem left_upd {L : Nat → Bool} {i : Nat} (h : L i = false) : ∀ n, i < n → left (upd L i) n + 1 = left L n
  | 0, h => by omega
  | n + 1, hi => by
    unfold left
    by_cases hn : i = n
    · subst hn; rw [left_ge i (Nat.le_refl _), upd_at, if_pos rfl, h]; simp
    · have := left_upd h n (by omega); rw [upd_at, if_neg (show ¬ n = i by omega)]; omega
theorem left_zero {L : Nat → Bool} : ∀ n, left L n = 0 → ∀ i, i < n → L i = true
  | 0, _, i, h => by omega
  | n + 1, hl, i, h => by
    unfold left at hl
    by_cases hi : i = n
    · subst hi; cases hL : L i with
      | true => rfl
      | false => rw [hL] at hl; simp at hl
    · exact left_zero n (by omega) i (by omega)
/-- each operation waits for earlier ones alone -/
def acy (l : List Oper) : Bool := (List.range l.length).all fun i => ((l[i]?).map (fun o => o.after.all fun e => decide (e.on < i))).getD true
def bitsOf (l : Array Bool) : Nat → Bool := fun j => l.getD j false
theorem bits_set {l : Array Bool} {i : Nat} (h : i < l.size) : bitsOf (l.setIfInBounds i true) = upd (bitsOf l) i := by
  funext j
  unfold bitsOf upd
  simp only [Array.getD_eq_getD_getElem?, Array.getElem?_setIfInBounds]
  by_cases hj : i = j
  · subst hj; rw [if_pos rfl, if_pos rfl, if_pos h]; rfl
  · rw [if_neg hj, if_neg (Ne.symm hj)]
section
variable {P : Program} {id : Nat} {l : List Oper} {Q : Exit → Act → World → Prop} {a : Act} {w : World}
theorem region_inv (hm : P.follows .mixedOrders = true) (hac : acy l = true) (I : (Nat → Bool) → Act → World → Prop) (h0 : I (fun _ => false) a w.drew)
    (hs : ∀ (L : Nat → Bool) (a : Act) (w : World) (i : Nat) (o : Oper), l[i]? = some o → L i = false → (∀ e ∈ o.after, Region.binds .any e = true → L e.on = true) → I L a w → wpOp P l.toArray Q i (I (upd L i)) a w)
    (he : ∀ (L : Nat → Bool) (a : Act) (w : World), (∀ i, i < l.length → L i = true) → I L a w → Q .normal a w) : (Code.region id l.toArray true).wp P Q a w := by
  have key : ∀ (fuel : Nat) (listed : Array Bool) (a : Act) (w : World), listed.size = l.length → left (bitsOf listed) l.length ≤ fuel → I (bitsOf listed) a w → wpAny P .any l.toArray Q fuel listed a w := by
    intro fuel
    induction fuel with
    | zero =>
      intro listed a w hsz hl hI
      have hall := left_zero _ (by omega : left (bitsOf listed) l.length = 0)
      refine ⟨List.eq_nil_iff_forall_not_mem.2 fun i hi => ?_, he _ a w hall hI⟩
      obtain ⟨hun, o, ho, _⟩ := mem_ready.1 hi
      have hlt : i < l.length := by
        rcases Nat.lt_or_ge i l.length with h | h
        · exact h
        · rw [Array.getElem?_eq_none (by simpa using h)] at ho; cases ho
      have := hall i hlt
      unfold bitsOf at this
      simp only [Array.getD_eq_getD_getElem?, Array.getElem?_eq_getElem (by omega : i < listed.size), Option.getD_some] at this hun
      rw [this] at hun; cases hun
    | succ fuel ih =>
      intro listed a w hsz hl hI
      refine ⟨fun hr => he _ a w ?_ hI, fun i hi => ?_⟩
      · intro i hi
        induction i using Nat.strongRecOn with
        | _ i ih2 =>
          cases hb : bitsOf listed i with
          | true => rfl
          | false =>
            exfalso
            have ho : (l.toArray)[i]? = some l[i] := by simp [hi]
            have hin : i ∈ Region.ready .any l.toArray listed := mem_ready.2 ⟨by
              unfold bitsOf at hb
              simp only [Array.getD_eq_getD_getElem?, Array.getElem?_eq_getElem (by omega : i < listed.size), Option.getD_some] at hb ⊢
              exact hb, _, ho, fun e he hbn => by
              unfold acy at hac
              have h1 := List.all_eq_true.1 hac i (by simp [hi])
              rw [List.getElem?_eq_getElem hi] at h1
              simp only [Option.map_some, Option.getD_some] at h1
              have h2 := (Array.all_eq_true_iff_forall_mem.1 h1) e he
              have h3 : e.on < i := of_decide_eq_true h2
              exact ih2 e.on h3 (by omega)⟩
            rw [hr] at hin; cases hin
      · obtain ⟨hun, o, ho, hall⟩ := mem_ready.1 hi
        have ho' : l[i]? = some o := by simpa using ho
        have hlt : i < l.length := by
          rcases Nat.lt_or_ge i l.length with h | h
          · exact h
          · rw [List.getElem?_eq_none h] at ho'; cases ho'
        have hb : bitsOf listed i = false := by
          unfold bitsOf
          simp only [Array.getD_eq_getD_getElem?, Array.getElem?_eq_getElem (by omega : i < listed.size), Option.getD_some] at hun ⊢
          exact hun
        refine wpOp_mono (fun a' w' hI' => ih _ a' w' (by simpa using hsz) ?_ ?_) (hs _ a w i o ho' hb (fun e he hbn => hall e he hbn) hI)
        · rw [bits_set (by omega)]
          have := left_upd hb l.length hlt
          omega
        · rw [bits_set (by omega)]; exact hI'
  refine wp_region_any hm (key _ _ _ _ (by simp) ?_ ?_)
  · simpa using left_le _ _
  · have : bitsOf (Array.replicate l.toArray.size false) = fun _ => false := by
      funext j
      unfold bitsOf
      simp only [Array.getD_eq_getD_getElem?, Array.getElem?_replicate]
      split <;> rfl
    rw [this]; exact h0
end
/-- a frame but for some of its slots -/
def Frm (tm t : Array Value) (ks : List Nat) : Prop := t.size = tm.size ∧ ∀ j, j ∉ ks → t[j]? = tm[j]?
theorem Frm.refl (tm : Array Value) (ks : List Nat) : Frm tm tm ks := ⟨rfl, fun _ _ => rfl⟩
theorem Frm.put {tm t : Array Value} {ks : List Nat} (h : Frm tm t ks) {j : Nat} (hj : j ∈ ks) (v : Value) : Frm tm (t.setIfInBounds j v) ks :=
  ⟨by simpa using h.1, fun k hk => by
    rw [Array.getElem?_setIfInBounds, if_neg (by rintro rfl; exact hk hj)]; exact h.2 k hk⟩
theorem Frm.get {tm t : Array Value} {ks : List Nat} (h : Frm tm t ks) {j : Nat} {v : Value} (hv : tm[j]? = some v) (hj : j ∉ ks) : t[j]? = some v := by rw [h.2 j hj, hv]
theorem Frm.same {tm t : Array Value} {ks : List (Nat × Value)} (h : Frm tm t (ks.map (·.1))) (hk : ∀ k ∈ ks, t[k.1]? = some k.2) : t = ks.foldl (fun s k => s.setIfInBounds k.1 k.2) tm := by
  obtain ⟨hsz, h⟩ := h
  induction ks generalizing tm with
  | nil => exact Array.ext_getElem? fun j => h j (by simp)
  | cons k r ih =>
    refine ih ?_ ?_ ?_
    · exact fun q hq => hk q (by simp [hq])
    · simpa using hsz
    · intro j hj
      by_cases e : j = k.1
      · subst e
        rw [hk k (by simp), Array.getElem?_setIfInBounds, if_pos rfl]
        have : k.1 < t.size := by
          rcases Nat.lt_or_ge k.1 t.size with h' | h'
          · exact h'
          · have := hk k (by simp); rw [Array.getElem?_eq_none h'] at this; cases this
        rw [if_pos (by omega)]
      · rw [Array.getElem?_setIfInBounds, if_neg (Ne.symm e)]
        exact h j (by simp only [List.map_cons, List.mem_cons, not_or]; exact ⟨e, hj⟩)
theorem put_at {t : Array Value} {j : Nat} {v u : Value} (h : t[j]? = some u) : (t.setIfInBounds j v)[j]? = some v := by
  have : j < t.size := by
    rcases Nat.lt_or_ge j t.size with h' | h'
    · exact h'
    · rw [Array.getElem?_eq_none h'] at h; cases h
  rw [Array.getElem?_setIfInBounds, if_pos rfl, if_pos this]
theorem put_at' {t : Array Value} {j : Nat} (v : Value) (h : j < t.size) : (t.setIfInBounds j v)[j]? = some v := by rw [Array.getElem?_setIfInBounds, if_pos rfl, if_pos h]
theorem put_ne {t : Array Value} {j k : Nat} {v : Value} (h : j ≠ k) : (t.setIfInBounds j v)[k]? = t[k]? := by rw [Array.getElem?_setIfInBounds, if_neg h]
theorem eval_at {a : Act} {j : Nat} {v : Value} (h : a.tmps[j]? = some v) : a.eval (.tmp j) = v := by
  show a.tmps.getD j undef = v
  rw [Array.getD_eq_getD_getElem?, h]; rfl
end Go.Proofs.Ytoiccljmdplfgaa.Reg
