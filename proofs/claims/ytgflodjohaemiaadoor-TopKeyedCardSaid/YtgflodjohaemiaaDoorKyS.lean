/-
  CHARTS: TOP: keys of a right chart: law.
-/
import Derived.Test.YtgflodjohaemiaaDoorKyR
namespace Go.Proofs.YtgflodjohaemiaaDoor.Ky
open Go.ChangeShapes Go.WideShapes Go.ChangeAt Go.RowKit Go.Maps
open Go.Proofs.YtgflodjohaemiaaDoor
open Go.Proofs.YtgflodjohaemiaaDoor.Wd
open Go.Proofs.YtgflodjohaemiaaDoor.Sl
open Go.Proofs.YtgflodjohaemiaaDoor.Mp (Smap wpList_look_yes wpList_look_no wpList_mput mput mput_same mput_other kS hR)
open Go.Proofs.YtgflodjohaemiaaDoor.Mr (Rmap rk row_key rowV)
open Go.Proofs.YtgflodjohaemiaaDoor.Utf (L L_len plain)
open Go.Proofs.YtgflodjohaemiaaDoor.Nv (chr chr_at okC nmB)
set_option linter.unusedVariables false
set_option linter.unusedSimpArgs false
theorem ch0 {l : List En} (h : chE l = 0) : l.length ≤ 4096 ∧ (∀ e ∈ l, rgB e = true) ∧ alB l = true := by
  unfold chE at h
  by_cases h1 : 4096 < l.length
  · rw [if_pos h1] at h; cases h
  rw [if_neg h1] at h
  cases h2 : l.any (fun e => !rgB e) with
  | true => rw [h2] at h; cases h
  | false =>
    rw [h2] at h
    cases h3 : twB l with
    | true => rw [h3] at h; cases h
    | false =>
      rw [h3] at h
      cases h4 : alB l with
      | false => rw [h4] at h; cases h
      | true => exact ⟨by omega, rg_of h2, rfl⟩
theorem ks_mem {l : List En} : ∀ k ∈ ksF l, ∃ e ∈ l, e.ky = k := by
  suffices h : ∀ (l : List En) (a : List ByteArray) (k : ByteArray), k ∈ l.foldl (fun a e => if L e.ky ∈ a.map L then a else a ++ [e.ky]) a → k ∈ a ∨ ∃ e ∈ l, e.ky = k from fun k hk => (h l [] k hk).resolve_left (by simp)
  intro l
  induction l with
  | nil => exact fun a k h => .inl h
  | cons e l ih =>
    intro a k h
    rcases ih _ k h with h1 | ⟨e', he', h1⟩
    · dsimp only at h1
      split at h1
      · exact .inl h1
      · rcases List.mem_append.1 h1 with h2 | h2
        · exact .inl h2
        · exact .inr ⟨e, List.mem_cons_self .., (List.mem_singleton.1 h2).symm⟩
    · exact .inr ⟨e', List.mem_cons_of_mem _ he', h1⟩
theorem ks_nodup (l : List En) : ((ksF l).map L).Nodup := by
  suffices h : ∀ (l : List En) (a : List ByteArray), (a.map L).Nodup → ((l.foldl (fun a e => if L e.ky ∈ a.map L then a else a ++ [e.ky]) a).map L).Nodup from h l [] (by simp)
  intro l
  induction l with
  | nil => exact fun a h => h
  | cons e l ih =>
    intro a h
    refine ih _ ?_
    dsimp only
    split
    · exact h
    · rename_i hn
      rw [List.map_append]
      refine List.nodup_append.2 ⟨h, by simp, fun x hx y hy => ?_⟩
      simp at hy; subst hy
      exact fun q => hn (q ▸ hx)
theorem ks_len (l : List En) : (ksF l).length ≤ l.length := by
  suffices h : ∀ (l : List En) (a : List ByteArray), (l.foldl (fun a e => if L e.ky ∈ a.map L then a else a ++ [e.ky]) a).length ≤ a.length + l.length from Nat.le_trans (h l []) (by simp)
  intro l
  induction l with
  | nil => exact fun a => Nat.le_refl _
  | cons e l ih =>
    intro a
    refine Nat.le_trans (ih _) ?_
    dsimp only
    split
    · simp <;> omega
    · simp <;> omega
theorem zN_some : ∀ (l : List En) (x : Mp.Key) (v : Nat), zN l x = some v → ∃ e ∈ l, L e.te = [48, 48, 49] ∧ L e.ky = x := by
  suffices h : ∀ (l : List En) (m : Mp.Key → Option Nat) (x : Mp.Key) (v : Nat), l.foldl (fun m e => if L e.te = [48, 48, 49] then nput m (L e.ky) e.n else m) m x = some v → m x = some v ∨ ∃ e ∈ l, L e.te = [48, 48, 49] ∧ L e.ky = x from fun l x v hx => (h l (fun _ => none) x v hx).resolve_left (by simp)
  intro l
  induction l with
  | nil => exact fun m x v h => .inl h
  | cons e l ih =>
    intro m x v h
    rcases ih _ x v h with h1 | ⟨e', he', h1⟩
    · dsimp only at h1
      split at h1
      · rename_i ht
        unfold nput at h1
        split at h1
        · rename_i hx; exact .inr ⟨e, List.mem_cons_self .., ht, hx.symm⟩
        · exact .inl h1
      · exact .inl h1
    · exact .inr ⟨e', List.mem_cons_of_mem _ he', h1⟩
theorem al_some {l : List En} (h : alB l = true) {e : En} (he : e ∈ l) : ∃ i, l.findIdx? (finP e.ky w001) = some i ∧ i < l.length := by
  unfold alB at h
  rw [Bool.not_eq_true', List.any_eq_false] at h
  have h1 := h e he
  unfold aloneP at h1
  have h2 : (zN l (L e.ky)).getD 0 = 1 := by simpa using h1
  cases hz : zN l (L e.ky) with
  | none => rw [hz] at h2; cases h2
  | some v =>
    obtain ⟨e', he', ht, hk⟩ := zN_some l _ v hz
    cases hf : l.findIdx? (finP e.ky w001) with
    | none =>
      rw [List.findIdx?_eq_none_iff] at hf
      have := hf e' he'
      unfold finP at this
      rw [decide_eq_true hk, decide_eq_true (show L e'.te = L w001 from ht)] at this
      cases this
    | some i =>
      refine ⟨i, rfl, ?_⟩
      rw [List.findIdx?_eq_some_iff_getElem] at hf
      exact hf.1
abbrev zp : ByteArray := ⟨#[90, 111, 110, 101, 115, 92]⟩
abbrev sZones : ByteArray := ⟨#[90, 111, 110, 101, 115]⟩
abbrev sZone : ByteArray := ⟨#[90, 111, 110, 101]⟩
theorem zp_L (k : ByteArray) : L (zp ++ k) = L sZones ++ 92 :: L k := by rw [L_add]; rfl
theorem key_facts {k : ByteArray} (h : keyB k = true) : 1 ≤ k.size ∧ k.size ≤ 64 ∧ plain (L k) = true ∧ hasB (L k) (L sgn4) = false := by
  unfold keyB at h
  simp only [Bool.and_eq_true, decide_eq_true_eq, Bool.not_eq_true'] at h
  exact ⟨h.1.1, h.1.2, h.2.1, h.2.2.1⟩
theorem key_no {k : ByteArray} (h : hasB (L k) (L sgn4) = false) : ∀ b ∈ L k, b ≠ 92 ∧ b ≠ 91 ∧ b ≠ 93 := by
  intro b hb
  unfold hasB at h
  rw [List.any_eq_false] at h
  have h1 := h b hb
  refine ⟨?_, ?_, ?_⟩ <;>
  · rintro rfl
    exact h1 (by decide)
theorem path_key {k : ByteArray} (h : keyB k = true) : PathOk (zp ++ k) ∧ L k ≠ [] ∧ (92 : UInt8) ∉ L k := by
  obtain ⟨h1, h2, h3, h4⟩ := key_facts h
  have hs : (zp ++ k).size = 6 + k.size := by rw [ByteArray.size_append]; rfl
  have hne : L k ≠ [] := fun e => by have := L_len k; rw [e] at this; simp at this; omega
  have h92 : (92 : UInt8) ∉ L k := fun hm => (key_no h4 _ hm).1 rfl
  refine ⟨⟨by omega, by omega, ?_, ?_, parts_ne (zp_L k) (by decide) hne (by decide) h92⟩, hne, h92⟩
  · rw [L_add, plain_asc (fun b hb => ?_)]
    · exact h3
    · have hb : b ∈ [(90 : UInt8), 111, 110, 101, 115, 92] := hb
      simp at hb; rcases hb with rfl | rfl | rfl | rfl | rfl | rfl <;> decide
  · rw [L_add]; unfold hasB
    rw [List.any_append, show (L zp).any (fun b => (L sgn2).contains b) = false by decide, Bool.false_or, List.any_eq_false]
    intro b hb hc
    have := key_no h4 b hb
    have hc : b ∈ [(91 : UInt8), 93] := by simpa [L] using hc
    simp at hc; rcases hc with rfl | rfl
    · exact this.2.1 rfl
    · exact this.2.2 rfl
theorem ok_asc {i : Nat} {z : Int} (h : okC i z = true) : 32 ≤ z ∧ z < 127 := by
  unfold okC at h
  simp only [Bool.or_eq_true, Bool.and_eq_true, decide_eq_true_eq] at h
  omega
theorem nm_plain {s : ByteArray} (h : nmB s = true) : s.size ≤ 64 ∧ plain (L s) = true := by
  unfold nmB at h
  simp only [Bool.and_eq_true, decide_eq_true_eq, List.all_eq_true, List.mem_range] at h
  refine ⟨h.1.2, ?_⟩
  have := plain_asc (l := L s) (r := []) (fun b hb => by
    obtain ⟨j, hj, rfl⟩ := List.mem_iff_getElem.1 hb
    have h2 := ok_asc (h.2 j (by rw [← L_len]; exact hj))
    have e : chr s j = ((L s)[j].toNat : Int) := by
      unfold chr
      rw [List.getD_eq_getElem?_getD, show s.data.toList[j]? = some (L s)[j] from List.getElem?_eq_getElem hj]; rfl
    rw [e] at h2
    omega)
  rw [List.append_nil] at this
  exact this.trans rfl
/-- a right chart's key: its path, its zone -/
theorem key_all {w : World} {B n c : Nat} {Ad : Option Addr} {l : List En} (hR : ChR w B Ad n c l) (hC : chE l = 0) {k : ByteArray} (hk : k ∈ ksF l) :
    (PathOk (zp ++ k) ∧ L k ≠ [] ∧ (92 : UInt8) ∉ L k) ∧ k.size ≤ 64 ∧ VlOk ⟨sZone, dfZ l k⟩ ∧ ∃ i, l.findIdx? (finP k w001) = some i ∧ i < n ∧ 1 ≤ (l.getD i En.nil).n := by
  obtain ⟨h1, h2, h3⟩ := ch0 hC
  obtain ⟨e, he, rfl⟩ := ks_mem k hk
  have hky : keyB e.ky = true := by
    have := h2 e he; unfold rgB at this
    simp only [Bool.and_eq_true] at this
    exact this.1
  obtain ⟨i, hi, hil⟩ := al_some h3 he
  have hil' : i < n := by rw [← hR.s.len]; exact hil
  have hmem := getD_mem (L := l) En.nil hil
  have hr := h2 _ hmem
  have hn := (rg_n hr).1
  have hzs : zsB (l.getD i En.nil).zs = true := by
    unfold rgB at hr
    simp only [Bool.and_eq_true] at hr
    exact hr.2.2.2
  have hzl : 0 < (l.getD i En.nil).zs.length := by rw [(hR.b _ hmem).2.2.1.len]; omega
  have hz : nmB (dfZ l e.ky) = true := by
    unfold dfZ
    rw [hi]
    unfold zsB at hzs
    rw [List.all_eq_true] at hzs
    exact hzs _ (getD_mem (L := (l.getD i En.nil).zs) ByteArray.empty hzl)
  obtain ⟨q1, q2⟩ := nm_plain hz
  refine ⟨path_key hky, (key_facts hky).2.1, ⟨by show 1 ≤ sZone.size; decide, by show sZone.size ≤ 64; decide, ?_, by show (dfZ l e.ky).size ≤ 4096; omega, q2⟩, i, hi, hil', hn⟩
  have := plain_asc (l := [90, 111, 110, 101]) (r := []) (by intro b hb; simp at hb; rcases hb with rfl | rfl | rfl | rfl <;> decide)
  rw [List.append_nil] at this; exact this.trans rfl
end Go.Proofs.YtgflodjohaemiaaDoor.Ky
