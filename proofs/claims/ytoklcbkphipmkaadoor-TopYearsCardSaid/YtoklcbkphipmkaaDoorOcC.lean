/-
  EVENTS, SORTED: slices.SortFunc at events.
-/
import Derived.Test.YtoklcbkphipmkaaDoorOcB
import Derived.Test.YtoklcbkphipmkaaDoorSrt
namespace Go.Proofs.YtoklcbkphipmkaaDoor.Oc
open Go.ChangeShapes Go.WideShapes Go.ChangeAt Go.RowKit
open Go.Sort (grow alloc_eq_grow grow_grow SWO PermIn SortedIn HoldsK Holds flatK size_flatK get_flatK putRowK putRow mapBlock)
open Go.Proofs.YtoklcbkphipmkaaDoor
open Go.Proofs.YtoklcbkphipmkaaDoor.Wd
open Go.Proofs.YtoklcbkphipmkaaDoor.Sr
open Go.Proofs.YtoklcbkphipmkaaDoor.Sl
set_option linter.unusedVariables false
set_option linter.unusedSimpArgs false
abbrev encE (rs : List Ru) (e : Pe) : List Value := (evC rs e).toList
theorem lt_of (rs : List Ru) (x y : Pe) : ltOf (ordV rs) x y = true ↔ ltE rs x y := by unfold ltOf; rw [decide_eq_true_iff, ordV_lt]
theorem lt_no (rs : List Ru) (x y : Pe) : ltOf (ordV rs) x y = false ↔ ¬ ltE rs x y := by rw [← Bool.not_eq_true, lt_of]
theorem swo (rs : List Ru) : SWO (ltOf (ordV rs)) where
  irrefl x := (lt_no rs x x).2 lt_irr
  trans x y z h1 h2 := (lt_of rs x z).2 (lt_trans_ ((lt_of rs x y).1 h1) ((lt_of rs y z).1 h2))
  ntrans x y z h1 h2 := (lt_no rs x z).2 (by
    have a := (lt_no rs x y).1 h1; have b := (lt_no rs y z).1 h2
    unfold ltE at *; omega)
theorem flat_flatK (rs : List Ru) (d : Array Pe) (j : Nat) (h : j < d.size * 7) : (flat (evC rs) d.toList)[j]? = some (flatK (encE rs) 7 d)[j]! := by
  have hk : j / 7 < d.size := by omega
  have e : j / 7 * 7 + j % 7 = j := by omega
  have := flat_at (f := evC rs) (sz := 7) (fun _ => rfl) ((default : Pe)) d.toList (j / 7) (j % 7) (by simpa using hk) (Nat.mod_lt _ (by omega))
  rw [e] at this
  rw [this, get_flatK _ _ _ _ h]
  have hd : d.toList.getD (j / 7) default = d[j / 7]! := by
    rw [List.getD_eq_getElem?_getD, Array.getElem?_toList, getElem!_pos d _ hk, Array.getElem?_eq_getElem hk]; rfl
  rw [hd]
  have hm : j % 7 < (evC rs d[j / 7]!).size := Nat.mod_lt _ (by omega)
  rw [Array.getElem?_eq_getElem hm, getElem!_pos (encE rs d[j / 7]!) (j % 7) (by rw [Array.length_toList]; exact hm), Array.getElem_toList]
theorem holds_of (rs : List Ru) (d : Array Pe) (w : World) (g B : Nat) (h : Sls (evC rs) 7 w B (some ⟨g, 0, none⟩) d.size d.toList) (h0 : 0 < d.size) (hf : ∀ i, w.frozen? ⟨g, i, none⟩ = false) : HoldsK (encE rs) 7 w g 0 d := by
  intro j hj
  rw [size_flatK] at hj
  obtain ⟨ad, e, _, hc⟩ := h.r.2 h0
  injection e with e
  subst e
  refine ⟨?_, hf _⟩
  have := hc j _ (flat_flatK rs d j hj)
  rw [show (⟨g, 0, none⟩ : Addr).add j = ⟨g, 0 + j, none⟩ by unfold Addr.add; split <;> simp_all] at this
  exact this
theorem of_holds (rs : List Ru) (d : Array Pe) (w : World) (g : Nat) (hg : g < w.heap.size) (h : HoldsK (encE rs) 7 w g 0 d) : Sls (evC rs) 7 w w.heap.size (some ⟨g, 0, none⟩) d.size d.toList := by
  refine ⟨by simp, by rw [flat_len (sz := 7) (fun _ => rfl)]; simp, fun hp => ⟨⟨g, 0, none⟩, rfl, hg, fun j u hu => ?_⟩⟩
  have hj : j < d.size * 7 := by
    rcases Nat.lt_or_ge j (flat (evC rs) d.toList).length with q | q
    · rw [flat_len (sz := 7) (fun _ => rfl)] at q; simpa using q
    · rw [List.getElem?_eq_none q] at hu; cases hu
  have h1 := (h j (by rw [size_flatK]; exact hj)).1
  rw [flat_flatK rs d j hj] at hu
  rw [show (⟨g, 0, none⟩ : Addr).add j = ⟨g, 0 + j, none⟩ by unfold Addr.add; split <;> simp_all, h1, ← hu]; rfl
theorem but_sort (rs : List Ru) (w : World) (g n : Nat) (d : Array Pe) (os : Array Obj) : But g w.heap.size w (sortWorldK (encE rs) 7 w g 0 n d os) := by
  refine ⟨rfl, rfl, rfl, by simp [sortWorldK, grow, putRowK, putRow, mapBlock, Go.Sort.ahead], fun k hk hm => ?_⟩
  show ((Go.Sort.ahead w n).heap.modify g _ ++ os)[k]? = _
  rw [Array.getElem?_append_left (by simpa [Go.Sort.ahead] using hk), Array.getElem?_modify, if_neg (Ne.symm hm)]; rfl
theorem lays (rs : List Ru) (g n : Nat) (w : World) : CmpLays Tryd.prog 28 #[] (encE rs) 7 (ordV rs) g 0 n w := by
  intro m os dk _ x y
  exact order_g rs x y _
theorem sort_any (rs : List Ru) (g cap : Nat) (L : List Pe) (w : World) (h : Sls (evC rs) 7 w w.heap.size (some ⟨g, 0, none⟩) L.length L) (h0 : 0 < L.length) (hg : g < w.heap.size) (hf : ∀ i, w.frozen? ⟨g, i, none⟩ = false) (hl : L.length ≤ 1000000) :
    Calls Tryd.prog 27 #[.slice (some ⟨g, 0, none⟩) L.length cap, .func (.func 28) #[] #[]] w fun e w' => e = .returned (.tuple #[]) ∧
      ∃ L' : List Pe, L'.Perm L ∧ (∀ i j, i < j → j < L'.length → ¬ ltE rs (L'.getD j (0, 0)) (L'.getD i (0, 0))) ∧ Sls (evC rs) 7 w' w'.heap.size (some ⟨g, 0, none⟩) L.length L' ∧ But g w.heap.size w w' := by
  have eg : ∀ args w, (callFunc 28 args).run Tryd.prog w = .ok (.enter 28 args) w := enters_of Tryd.func28 (by kernel_rfl) rfl
  have hH := holds_of rs L.toArray w g w.heap.size (by simpa using h) (by simpa using h0) hf
  have hs : L.toArray.size = L.length := by simp
  have := Tryd.sort_event (encE rs) (fun _ => rfl) (fun x v hv => by simp [encE, evC] at hv; rcases hv with rfl | rfl | rfl | rfl | rfl | rfl | rfl <;> rfl) (ordV rs) (swo rs) 28 #[] g 0 cap L.toArray w eg (lays rs g _ w) hH hg (by rw [hs]; omega)
  rw [hs] at this
  refine this.mono ?_
  rintro e w' ⟨rfl, d', n, os, hp, hso, rfl⟩
  obtain ⟨p1, _, p3⟩ := hp
  rw [hs] at p1
  have hH' := holdsK_sortWorldK (encE rs) 7 w g 0 n L.toArray d' os hg hH (by rw [p1]; simp)
  have hb := but_sort rs w g n d' os
  have hS := of_holds rs d' _ g (Nat.lt_of_lt_of_le hg hb.size) hH'
  rw [p1] at hS
  refine ⟨rfl, d'.toList, ?_, fun i j hij hj => ?_, hS, hb⟩
  · have e1 : d'.extract 0 L.length = d' := by rw [← p1]; simp
    have e2 : L.toArray.extract 0 L.length = L.toArray := by rw [← hs]; simp
    rw [e1, e2] at p3
    simpa using p3
  · have hj' : j < d'.size := by simpa using hj
    have := hso i j (Nat.zero_le _) hij (by rw [← p1]; exact hj')
    rw [lt_no, getElem!_pos d' j hj', getElem!_pos d' i (by omega)] at this
    rw [List.getD_eq_getElem?_getD, List.getD_eq_getElem?_getD, Array.getElem?_toList, Array.getElem?_toList, Array.getElem?_eq_getElem hj', Array.getElem?_eq_getElem (by omega)]
    exact this
end Go.Proofs.YtoklcbkphipmkaaDoor.Oc
