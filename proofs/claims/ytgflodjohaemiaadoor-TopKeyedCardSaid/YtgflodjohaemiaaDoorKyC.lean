/-
  CHARTS: twice, alone, shared, Check: walked.
-/
import Derived.Test.YtgflodjohaemiaaDoorKyB
import Derived.Test.YtgflodjohaemiaaDoorRmp
namespace Go.Proofs.YtgflodjohaemiaaDoor.Ky
open Go.ChangeShapes Go.WideShapes Go.ChangeAt Go.RowKit Go.Maps
open Go.Proofs.YtgflodjohaemiaaDoor
open Go.Proofs.YtgflodjohaemiaaDoor.Wd
open Go.Proofs.YtgflodjohaemiaaDoor.Sl
open Go.Proofs.YtgflodjohaemiaaDoor.Mp (Smap wpList_look_yes wpList_look_no wpList_mput mput mput_same mput_other kS hR)
open Go.Proofs.YtgflodjohaemiaaDoor.Mr (Rmap rk row_key rowV)
open Go.Proofs.YtgflodjohaemiaaDoor.Utf (L)
set_option linter.unusedVariables false
set_option linter.unusedSimpArgs false
/-- where the first one is of which something holds, or -1 -/
def fiV {α : Type} (p : α → Bool) (l : List α) : Int := match l.findIdx? p with | some i => (i : Int) | none => -1
theorem fi_yes {α : Type} {p : α → Bool} {l : List α} {d : α} {k : Nat} (hk : k < l.length) (h : ∀ j, j < k → p (l.getD j d) = false) (hp : p (l.getD k d) = true) : fiV p l = (k : Int) := by
  have : l.findIdx? p = some k := by
    rw [List.findIdx?_eq_some_iff_getElem]
    refine ⟨hk, by rwa [List.getD_eq_getElem?_getD, List.getElem?_eq_getElem hk] at hp, fun j hj => ?_⟩
    have := h j hj
    rw [List.getD_eq_getElem?_getD, List.getElem?_eq_getElem (by omega)] at this
    simpa using this
  unfold fiV; rw [this]
theorem fi_no {α : Type} {p : α → Bool} {l : List α} {d : α} (h : ∀ j, j < l.length → p (l.getD j d) = false) : fiV p l = -1 := by
  have : l.findIdx? p = none := by
    rw [List.findIdx?_eq_none_iff]
    intro x hx
    obtain ⟨j, hj, rfl⟩ := List.getElem_of_mem hx
    have := h j hj
    rwa [List.getD_eq_getElem?_getD, List.getElem?_eq_getElem hj] at this
  unfold fiV; rw [this]
theorem fi_any {α : Type} (p : α → Bool) (l : List α) : decide (0 ≤ fiV p l) = l.any p := by
  unfold fiV
  cases h : l.findIdx? p with
  | none =>
    rw [List.findIdx?_eq_none_iff] at h
    have : l.any p = false := by rw [List.any_eq_false]; exact fun x hx => by rw [h x hx]; decide
    rw [this]; rfl
  | some i =>
    rw [List.findIdx?_eq_some_iff_getElem] at h
    obtain ⟨hi, hp, _⟩ := h
    have : l.any p = true := List.any_eq_true.2 ⟨_, List.getElem_mem hi, hp⟩
    rw [this]
    exact decide_eq_true (show (0 : Int) ≤ (i : Int) by omega)
set_option maxRecDepth 100000 in
set_option maxHeartbeats 6400000 in
theorem idx_check (A : Option Addr) (n c B : Nat) (l : List En) (p : En → Bool) (w : World) (hR : Sls En.C 3 w B A n l) (hB : B ≤ w.heap.size) (hm : n ≤ maxLen)
    (hc : ∀ k, k < n → ∀ W, Below w.heap.size w W → Calls Tryd.prog 17 #[.agg (l.getD k En.nil).C] W fun x w' => x = .returned (.bool (p (l.getD k En.nil))) ∧ Below W.heap.size W w') :
    Calls Tryd.prog 31 #[.slice A n c, .func (.func 17) #[] #[]] w fun x w' => x = .returned (.int .i64 (fiV p l)) ∧ Below w.heap.size w w' := by
  have hll := hR.len
  unfold maxLen at hm
  have HC := Lib.hid hc; clear hc
  go_enter Tryd.func31, Tryd.ntmps31
  go_wp2_with fail
  go_loopw [5, 8] (fun _ i wr => ∃ k : Nat, i = .int .i64 (k : Int) ∧ k ≤ n ∧ (∀ j, j < k → p (l.getD j En.nil) = false) ∧ Below w.heap.size w wr) (fun _ i _ => n - (intOf i).toNat)
  case atStart => exact ⟨0, rfl, Nat.zero_le _, fun j hj => absurd hj (Nat.not_lt_zero _), Below.refl _ _⟩
  case round =>
    obtain ⟨k, rfl, hk, hall, b⟩ := hrel
    have HA := Lib.hid hall; clear hall
    by_cases hlt : k < n
    · have hltI : (k : Int) < (n : Int) := by omega
      have hkl : k < l.length := by omega
      obtain ⟨ad, eA, hrow⟩ := (hR.below (b.mono hB)).row (fun _ => rfl) En.nil hlt
      subst eA
      have hcc := HC.out k hlt wr b
      obtain ⟨a, ha⟩ : ∃ a, l.getD k En.nil = a := ⟨_, rfl⟩
      rw [ha] at hrow hcc
      obtain ⟨pb, hpb⟩ : ∃ b, p a = b := ⟨_, rfl⟩
      rw [hpb] at hcc
      have HP := Lib.hid (show p (l.getD k En.nil) = pb by rw [ha]; exact hpb)
      clear ha hpb
      go_wp2_with (refine wpList_at_g rfl 58 _ rfl B _ a.C rfl _ hrow Tryd.underlying58 rfl (by kernel_rfl) ?_)
      refine hcc.mono ?_; rintro x W1 ⟨rfl, hb⟩
      have b1 := bcl b hb; clear hb hcc hrow
      cases pb with
      | false =>
        have HS := Lib.hid (show ∀ j, j < k + 1 → p (l.getD j En.nil) = false from fun j hj => by
          by_cases q : j = k
          · rw [q]; exact HP.out
          · exact HA.out j (by omega))
        go_wp2_with fail
        go_roundw
        case rel => exact ⟨k + 1, by go_num, by omega, HS.out, b1⟩
        case measure => simp [intOf]; omega
      | true =>
        have HF := Lib.hid (fi_yes hkl HA.out HP.out)
        go_wp2_with fail
        go_ret
        exact ⟨by rw [HF.out]; rfl, b1⟩
    · obtain rfl : k = n := by omega
      have hltI : ¬ (k : Int) < (k : Int) := by omega
      have HF := Lib.hid (fi_no (p := p) (l := l) (d := En.nil) (fun j hj => HA.out j (by omega)))
      go_wp2_with fail
      go_ret
      exact ⟨by rw [HF.out]; rfl, b⟩
set_option maxRecDepth 100000 in
theorem con_check (A : Option Addr) (n c B : Nat) (l : List En) (p : En → Bool) (w : World) (hR : Sls En.C 3 w B A n l) (hB : B ≤ w.heap.size) (hm : n ≤ maxLen)
    (hc : ∀ k, k < n → ∀ W, Below w.heap.size w W → Calls Tryd.prog 17 #[.agg (l.getD k En.nil).C] W fun x w' => x = .returned (.bool (p (l.getD k En.nil))) ∧ Below W.heap.size W w') :
    Calls Tryd.prog 16 #[.slice A n c, .func (.func 17) #[] #[]] w fun x w' => x = .returned (.bool (l.any p)) ∧ Below w.heap.size w w' := by
  have hi := idx_check A n c B l p w hR hB hm hc
  have ha := fi_any p l
  clear hc hR
  go_enter Tryd.func16, Tryd.ntmps16
  go_wp2_with fail
  refine hi.mono ?_; rintro x w1 ⟨rfl, hb⟩
  have HA := Lib.hid ha; clear ha hi
  generalize fiV p l = v at *
  go_wp2_with fail
  go_ret
  exact ⟨by rw [← HA.out]; rfl, hb⟩
set_option maxRecDepth 100000 in
set_option maxHeartbeats 6400000 in
theorem idx_alone (A : Option Addr) (n c B : Nat) (l : List En) (p : En → Bool) (g : Nat) (w : World) (hR : Sls En.C 3 w B A n l) (hB : B ≤ w.heap.size) (hm : n ≤ maxLen)
    (hc : ∀ k, k < n → ∀ W, Below w.heap.size w W → Calls Tryd.prog 35 #[.agg (l.getD k En.nil).C, .pointer (some ⟨g, 0, none⟩)] W fun x w' => x = .returned (.bool (p (l.getD k En.nil))) ∧ Below W.heap.size W w') :
    Calls Tryd.prog 31 #[.slice A n c, .func (.func 35) #[] #[.pointer (some ⟨g, 0, none⟩)]] w fun x w' => x = .returned (.int .i64 (fiV p l)) ∧ Below w.heap.size w w' := by
  have hll := hR.len
  unfold maxLen at hm
  have HC := Lib.hid hc; clear hc
  go_enter Tryd.func31, Tryd.ntmps31
  go_wp2_with fail
  go_loopw [5, 8] (fun _ i wr => ∃ k : Nat, i = .int .i64 (k : Int) ∧ k ≤ n ∧ (∀ j, j < k → p (l.getD j En.nil) = false) ∧ Below w.heap.size w wr) (fun _ i _ => n - (intOf i).toNat)
  case atStart => exact ⟨0, rfl, Nat.zero_le _, fun j hj => absurd hj (Nat.not_lt_zero _), Below.refl _ _⟩
  case round =>
    obtain ⟨k, rfl, hk, hall, b⟩ := hrel
    have HA := Lib.hid hall; clear hall
    by_cases hlt : k < n
    · have hltI : (k : Int) < (n : Int) := by omega
      have hkl : k < l.length := by omega
      obtain ⟨ad, eA, hrow⟩ := (hR.below (b.mono hB)).row (fun _ => rfl) En.nil hlt
      subst eA
      have hcc := HC.out k hlt wr b
      obtain ⟨a, ha⟩ : ∃ a, l.getD k En.nil = a := ⟨_, rfl⟩
      rw [ha] at hrow hcc
      obtain ⟨pb, hpb⟩ : ∃ b, p a = b := ⟨_, rfl⟩
      rw [hpb] at hcc
      have HP := Lib.hid (show p (l.getD k En.nil) = pb by rw [ha]; exact hpb)
      clear ha hpb
      go_wp2_with (refine wpList_at_g rfl 58 _ rfl B _ a.C rfl _ hrow Tryd.underlying58 rfl (by kernel_rfl) ?_)
      refine hcc.mono ?_; rintro x W1 ⟨rfl, hb⟩
      have b1 := bcl b hb; clear hb hcc hrow
      cases pb with
      | false =>
        have HS := Lib.hid (show ∀ j, j < k + 1 → p (l.getD j En.nil) = false from fun j hj => by
          by_cases q : j = k
          · rw [q]; exact HP.out
          · exact HA.out j (by omega))
        go_wp2_with fail
        go_roundw
        case rel => exact ⟨k + 1, by go_num, by omega, HS.out, b1⟩
        case measure => simp [intOf]; omega
      | true =>
        have HF := Lib.hid (fi_yes hkl HA.out HP.out)
        go_wp2_with fail
        go_ret
        exact ⟨by rw [HF.out]; rfl, b1⟩
    · obtain rfl : k = n := by omega
      have hltI : ¬ (k : Int) < (k : Int) := by omega
      have HF := Lib.hid (fi_no (p := p) (l := l) (d := En.nil) (fun j hj => HA.out j (by omega)))
      go_wp2_with fail
      go_ret
      exact ⟨by rw [HF.out]; rfl, b⟩
set_option maxRecDepth 100000 in
theorem con_alone (A : Option Addr) (n c B : Nat) (l : List En) (p : En → Bool) (g : Nat) (w : World) (hR : Sls En.C 3 w B A n l) (hB : B ≤ w.heap.size) (hm : n ≤ maxLen)
    (hc : ∀ k, k < n → ∀ W, Below w.heap.size w W → Calls Tryd.prog 35 #[.agg (l.getD k En.nil).C, .pointer (some ⟨g, 0, none⟩)] W fun x w' => x = .returned (.bool (p (l.getD k En.nil))) ∧ Below W.heap.size W w') :
    Calls Tryd.prog 16 #[.slice A n c, .func (.func 35) #[] #[.pointer (some ⟨g, 0, none⟩)]] w fun x w' => x = .returned (.bool (l.any p)) ∧ Below w.heap.size w w' := by
  have hi := idx_alone A n c B l p g w hR hB hm hc
  have ha := fi_any p l
  clear hc hR
  go_enter Tryd.func16, Tryd.ntmps16
  go_wp2_with fail
  refine hi.mono ?_; rintro x w1 ⟨rfl, hb⟩
  have HA := Lib.hid ha; clear ha hi
  generalize fiV p l = v at *
  go_wp2_with fail
  go_ret
  exact ⟨by rw [← HA.out]; rfl, hb⟩
end Go.Proofs.YtgflodjohaemiaaDoor.Ky
