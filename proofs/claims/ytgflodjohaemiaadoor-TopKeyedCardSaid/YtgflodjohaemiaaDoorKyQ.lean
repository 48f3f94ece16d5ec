/-
  CHARTS: ATLAS: Missing of nothing: walked.
-/
import Derived.Test.YtgflodjohaemiaaDoorKyP
import Derived.RangeFuncNested
import Derived.RangeFuncBound
import Derived.RangeFuncCalls
import Derived.RangeFuncLeaves
import Derived.Shelf.Abstract
import Derived.Shelf.RegionOpen
import Derived.WalkKit
import Derived.OwnWalkIn
import Derived.TacticsInMore
import Derived.LoopNIn
import Derived.LoopIn
import Derived.RangeFuncBox
namespace Go.Proofs.YtgflodjohaemiaaDoor.Ky
open Go.ChangeShapes Go.WideShapes Go.ChangeAt Go.RowKit Go.Maps
open Go.Proofs.YtgflodjohaemiaaDoor
open Go.Proofs.YtgflodjohaemiaaDoor.Wd
open Go.Proofs.YtgflodjohaemiaaDoor.Sl
open Go.Proofs.YtgflodjohaemiaaDoor.Mp (Smap wpList_look_yes wpList_look_no wpList_mput mput mput_same mput_other kS hR)
open Go.Proofs.YtgflodjohaemiaaDoor.Mr (Rmap rk row_key rowV)
open Go.Proofs.YtgflodjohaemiaaDoor.Utf (L)
open Go.Shelf
set_option linter.unusedVariables false
attribute [local go_sem] Oper.semAt_some
set_option linter.unusedSimpArgs false
set_option maxRecDepth 100000 in
theorem names1_any (l g : Nat) (w : World) (hg : Blk w g 22 #[.slice none 0 0]) : Calls Tryd.prog 46 #[.func (.yield l) #[] #[], .pointer (some ⟨g, 0, none⟩)] w fun x w' => (∃ v, x = .returned v) ∧ w' = w := by
  have c0 : w.cell? ⟨g, 0, none⟩ = some (.slice none 0 0) := hg.cell 0
  go_enter Tryd.func46, Tryd.ntmps46
  go_upto_region 1 with fail
  go_loopw [9] (fun i wr => i = .int .i64 0 ∧ wr = w) (fun _ _ => 0)
  case atStart => exact ⟨rfl, rfl⟩
  case round =>
    obtain ⟨rfl, rfl⟩ := hrel
    go_wp2_with fail
    go_end0
    exact ⟨⟨_, rfl⟩, rfl⟩
set_option maxRecDepth 100000 in
theorem names_any0 (w : World) : Calls Tryd.prog 30 #[.slice none 0 0] w fun x w' => x = .returned (.func (.func 46) #[] #[.pointer (some ⟨w.heap.size, 0, none⟩)]) ∧ w' = w.alloc (.cells #[.slice none 0 0] 22) := by
  go_enter Tryd.func30, Tryd.ntmps30
  go_wp2_with fail
  go_ret
  exact ⟨rfl, rfl⟩
theorem none_stops (m g n0 : Nat) (w : World) (hg : Blk w g 22 #[.slice none 0 0]) :
    SeqStopsK Fence.wide m Tryd.prog 46 #[.pointer (some ⟨g, 0, none⟩)] (fun x : Empty => x.elim) (fun A B => Below n0 A B) (fun _ => True) (fun _ => False) 0 w := fun l J Jx W hW hJ hJx hY h0 =>
  (callsIn_wide.2 (names1_any l g W ((hW.block g hg.lt).trans hg))).mono fun e W' h => by
    obtain ⟨h1, rfl⟩ := h
    exact ⟨h1, .inl ⟨[], trivial, h0⟩⟩
theorem blk_own {β : Type} (g : Nat) (t : TypeId) (cs : β → Array Value) : Own (fun s W => Blk W g t (cs s)) := fun s X Y row hs hg hrow =>
  (hg.block g hs.lt (fun e' => by obtain ⟨o, ho, hc⟩ := hrow g e'.symm; rw [show X.heap[g]? = _ from hs] at ho; cases ho; cases hc)).trans hs
set_option maxRecDepth 100000 in
set_option maxHeartbeats 6400000 in
theorem missing0_in (w : World) : CallsIn Fence.wide 5 Tryd.prog 15 #[.slice none 0 0, .agg #[.slice none 0 0, .slice none 0 0, .slice none 0 0]] w fun e W' => e = .returned (.slice none 0 0) ∧ Below w.heap.size w W' := by
  have x1 := Blk.new w 56 #[.slice none 0 0, .slice none 0 0, .slice none 0 0]
  have b1 := bal (Below.refl _ w) (.cells #[.slice none 0 0, .slice none 0 0, .slice none 0 0] 56)
  refine callsIn_of_wp_marks Tryd.func15 rfl trivial ?_ rfl
  simp only [Tryd.ntmps15, List.size_toArray, List.length_cons, List.length_nil, Nat.reduceAdd, Nat.reduceSub, Array.replicate_succ, Array.replicate_zero, List.push_toArray, List.append_toArray, List.nil_append, List.cons_append]
  gi_wp2_with (refine wpListIn_row_g rfl 56 _ rfl _ rfl _ _ _ x1 Tryd.underlying56 rfl (by kernel_rfl) ?_)
  refine ⟨trivial, (callsIn_wide.2 (leads0_any _)).mono ?_⟩
  rintro e w2 ⟨⟨g1, g2, rfl⟩, hb2⟩
  have b2 := bcl b1 hb2
  have hmk := fun W : World => (show (Instr.makeMap 61 none).run Tryd.prog W = .ok (.map (some W.heap.size)) (W.alloc (.map #[] 0)) from rfl)
  have z2 := Blk.new w2 72 #[.nilFunc]
  have b3 := bal b2 (.cells #[.nilFunc] 72)
  have hst : (store ⟨w2.heap.size, 0, none⟩ (.func (.func 44) #[] #[.pointer (some ⟨g1, 0, none⟩), .pointer (some ⟨g2, 0, none⟩)])).run Tryd.prog (w2.alloc (.cells #[.nilFunc] 72)) = .ok () ((w2.alloc (.cells #[.nilFunc] 72)).setCell ⟨w2.heap.size, 0, none⟩ (.func (.func 44) #[] #[.pointer (some ⟨g1, 0, none⟩), .pointer (some ⟨g2, 0, none⟩)])) := by
    rw [run_store Tryd.prog _ _ _ _ rfl, z2.cell 0, z2.frozen 0]; rfl
  have b4 := b3.setCell (p := ⟨w2.heap.size, 0, none⟩) (by exact b2.size) (.func (.func 44) #[] #[.pointer (some ⟨g1, 0, none⟩), .pointer (some ⟨g2, 0, none⟩)])
  generalize hV4 : (w2.alloc (.cells #[.nilFunc] 72)).setCell ⟨w2.heap.size, 0, none⟩ (.func (.func 44) #[] #[.pointer (some ⟨g1, 0, none⟩), .pointer (some ⟨g2, 0, none⟩)]) = V4 at *
  clear z2 b3
  have b5 := bal (bal b4 (.map #[] 0)) (.cells #[.map (some V4.heap.size)] 61)
  have b6 := bal b5 (.cells #[.slice none 0 0] 30)
  have r6 := Blk.new ((V4.alloc (.map #[] 0)).alloc (.cells #[.map (some V4.heap.size)] 61)) 30 #[.slice none 0 0]
  rw [sz1 _ _ (sz1 _ _ rfl)] at r6
  gi_wp2_with fail
  refine ⟨trivial, (callsIn_wide.2 (names_any0 _)).mono ?_⟩
  rintro e w7 ⟨rfl, rfl⟩
  have b7 := bal b6 (.cells #[.slice none 0 0] 22)
  have r7 := r6.alloc (.cells #[.slice none 0 0] 22)
  have n7 := Blk.new (((V4.alloc (.map #[] 0)).alloc (.cells #[.map (some V4.heap.size)] 61)).alloc (.cells #[.slice none 0 0] 30)) 22 #[.slice none 0 0]
  have hv4 := b4.size
  clear b4 b5 b6 r6 hmk hst hV4
  generalize (((V4.alloc (.map #[] 0)).alloc (.cells #[.map (some V4.heap.size)] 61)).alloc (.cells #[.slice none 0 0] 30)).heap.size = g8 at *
  generalize (((V4.alloc (.map #[] 0)).alloc (.cells #[.map (some V4.heap.size)] 61)).alloc (.cells #[.slice none 0 0] 30)).alloc (.cells #[.slice none 0 0] 22) = W7 at *
  generalize V4.heap.size = g4 at *
  have hs7 := b7.size
  gi_wp2_with fail
  refine wpIn_rangeFunc_ownH (α := Empty) (n := 5) rfl (show 1 ≤ 5 by decide) (gf := 46) (lb := #[.pointer (some ⟨g8, 0, none⟩)]) rfl trivial (enters_of Tryd.func46 (by kernel_rfl) rfl)
    (none_stops (5 - 1) g8 w.heap.size W7 n7) (fun h k => h.trans k) (belowK_b hs7) (Below.refl _ _) (fun x => x.elim)
    (fun (_ : List Empty) W => Blk W (g4 + 1 + 1) 30 #[.slice none 0 0] ∧ Below w.heap.size w W)
    (fun _ _ _ => False)
    (OwnFrom.and (Own.from (blk_own _ _ _) _) (ownFrom_below (Nat.le_refl _) hs7))
    (fun _ _ _ _ _ hs _ _ => hs)
    ⟨r7, b7⟩
    (fun _ _ _ => False)
    (fun x => x.elim)
    ?assign ?body ?done ?stop
  case assign => exact fun _ _ x => x.elim
  case body => exact fun _ _ x => x.elim
  case stop => exact fun _ _ _ _ _ h => h.elim
  case done =>
    rintro D ys W hD - ⟨r1, hB⟩ hK
    have rc : W.cell? ⟨g4 + 1 + 1, 0, none⟩ = some (.slice none 0 0) := r1.cell 0
    have hwD : w.heap.size ≤ D := by omega
    gi_wp2_with fail
    refine ⟨by simp, .inl ⟨_, _, rfl, run_takeDeferred hK, ?_⟩⟩
    exact ⟨_, results_tmp rfl _ _ _, rfl, hB.trans (belowK_b (w := w) (Nat.le_refl _) _ D _ _ hwD hK rfl rfl)⟩
theorem missing0_any (w : World) : Calls Tryd.prog 15 #[.slice none 0 0, .agg #[.slice none 0 0, .slice none 0 0, .slice none 0 0]] w fun e W' => e = .returned (.slice none 0 0) ∧ Below w.heap.size w W' := callsIn_wide.1 (missing0_in w)
end Go.Proofs.YtgflodjohaemiaaDoor.Ky
