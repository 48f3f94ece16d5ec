/-
  CHARTS: ATLAS: Names, leads of the empty source: walked.
-/
import Derived.Test.YtgflodjohaemiaaDoorKyO
namespace Go.Proofs.YtgflodjohaemiaaDoor.Ky
open Go.ChangeShapes Go.WideShapes Go.ChangeAt Go.RowKit Go.Maps
open Go.Proofs.YtgflodjohaemiaaDoor
open Go.Proofs.YtgflodjohaemiaaDoor.Wd
open Go.Proofs.YtgflodjohaemiaaDoor.Sl
open Go.Proofs.YtgflodjohaemiaaDoor.Mp (Smap wpList_look_yes wpList_look_no wpList_mput mput mput_same mput_other kS hR)
open Go.Proofs.YtgflodjohaemiaaDoor.Mr (Rmap rk row_key rowV)
open Go.Proofs.YtgflodjohaemiaaDoor.Utf (L)
set_option linter.unusedVariables false
set_option linter.unusedSimpArgs false
def NmP (x : Ending) : Prop := ∃ A' c', x = .returned (.slice A' 0 c')
set_option maxRecDepth 100000 in
set_option maxHeartbeats 6400000 in
theorem names0_any (w : World) : Calls Tryd.prog 43 #[.agg #[.slice none 0 0, .slice none 0 0, .slice none 0 0]] w fun x w' => NmP x ∧ Below w.heap.size w w' := by
  obtain ⟨i0, hi0, hz0, hz1, hz2⟩ := info_parts st_inf
  have hmk := fun W => run_makeSlice (P := Tryd.prog) W 30 9 i0 _ Tryd.underlying30 hi0 hz0 .i64 .i64 0 0 (by omega) (by omega) (by show 0 * _ ≤ _; omega) (by omega) (by omega)
  have b1 := bal (Below.refl _ w) (.cells #[.slice none 0 0, .slice none 0 0, .slice none 0 0] 56); have x1 := Blk.new w 56 #[.slice none 0 0, .slice none 0 0, .slice none 0 0]
  have HQ := Lib.hid (show ∀ A', NmP (.returned (.slice A' 0 0)) from fun A' => ⟨A', 0, rfl⟩)
  go_enter Tryd.func43, Tryd.ntmps43
  go_upto_region 1 with fail
  generalize w.alloc (.cells #[.slice none 0 0, .slice none 0 0, .slice none 0 0] 56) = V at *
  obtain ⟨q, hq⟩ : ∃ q, w.heap.size = q := ⟨_, rfl⟩
  rw [hq] at x1 ⊢
  have c1 : V.cell? ⟨q, 1, none⟩ = some (.slice none 0 0) := x1.cell 1
  have c2 : V.cell? ⟨q, 2, none⟩ = some (.slice none 0 0) := x1.cell 2
  have b2 := bal b1 (.cells (madeCells #[.string ⟨#[]⟩] 0) 9)
  have x2 := x1.alloc (.cells (madeCells #[.string ⟨#[]⟩] 0) 9)
  go_upto_region 2 with fail
  clear c1 c2 x1 hmk
  generalize V.alloc (.cells (madeCells #[.string ⟨#[]⟩] 0) 9) = W at *
  generalize V.heap.size = q2 at *
  have c1 : W.cell? ⟨q, 1, none⟩ = some (.slice none 0 0) := x2.cell 1
  have c2 : W.cell? ⟨q, 2, none⟩ = some (.slice none 0 0) := x2.cell 2
  go_upto_region 3 with fail
  go_loopw [3, 19] (fun v i wr => v = .slice (some ⟨q2, 0, none⟩) 0 0 ∧ i = .int .i64 0 ∧ wr = W) (fun _ _ _ => 0)
  case atStart => exact ⟨rfl, rfl, rfl⟩
  case round =>
    obtain ⟨rfl, rfl, rfl⟩ := hrel
    go_wp2_with fail
    go_loopw [3, 32] (fun v i wq => v = .slice (some ⟨q2, 0, none⟩) 0 0 ∧ i = .int .i64 0 ∧ Below w.heap.size w wq) (fun _ _ _ => 0)
    case atStart => exact ⟨rfl, rfl, b2⟩
    case round =>
      obtain ⟨rfl, rfl, b3⟩ := hrel
      go_wp2_with fail
      go_ret
      exact ⟨HQ.out _, b3⟩
def LdP (x : Ending) : Prop := ∃ g1 g2, x = .returned (.func (.func 44) #[] #[.pointer (some ⟨g1, 0, none⟩), .pointer (some ⟨g2, 0, none⟩)])
set_option maxRecDepth 100000 in
set_option maxHeartbeats 6400000 in
theorem leads0_any (w : World) : Calls Tryd.prog 29 #[.agg #[.slice none 0 0, .slice none 0 0, .slice none 0 0]] w fun x w' => LdP x ∧ Below w.heap.size w w' := by
  have hmk := fun W : World => (show (Instr.makeMap 82 none).run Tryd.prog W = .ok (.map (some W.heap.size)) (W.alloc (.map #[] 0)) from rfl)
  have b1 := bal (Below.refl _ w) (.cells #[.slice none 0 0, .slice none 0 0, .slice none 0 0] 56); have x1 := Blk.new w 56 #[.slice none 0 0, .slice none 0 0, .slice none 0 0]
  have HQ := Lib.hid (show ∀ g1 g2, LdP (.returned (.func (.func 44) #[] #[.pointer (some ⟨g1, 0, none⟩), .pointer (some ⟨g2, 0, none⟩)])) from fun g1 g2 => ⟨g1, g2, rfl⟩)
  have hnm := fun W => names0_any W
  go_enter Tryd.func29, Tryd.ntmps29
  go_upto_region 1 with fail
  generalize w.alloc (.cells #[.slice none 0 0, .slice none 0 0, .slice none 0 0] 56) = V at *
  obtain ⟨q, hq⟩ : ∃ q, w.heap.size = q := ⟨_, rfl⟩
  rw [hq] at x1 ⊢
  have b2 := bal (bal b1 (.map #[] 0)) (.cells #[.map (some V.heap.size)] 82)
  have x2 := (x1.alloc (.map #[] 0)).alloc (.cells #[.map (some V.heap.size)] 82)
  go_upto_region 2 with fail
  clear hmk x1 b1
  generalize V.heap.size = q2 at *
  generalize (V.alloc (.map #[] 0)).alloc (.cells #[.map (some q2)] 82) = W at *
  go_wp2_with (refine wpList_row_g rfl 56 _ rfl _ rfl _ _ _ _ x2 Tryd.underlying56 rfl (by kernel_rfl) ?_)
  refine (hnm _).mono ?_; rintro x w1 ⟨⟨A', c', rfl⟩, b3⟩
  have b3 := bcl b2 b3
  go_wp2_with fail
  go_loopw [10] (fun i wq => i = .int .i64 0 ∧ Below w.heap.size w wq) (fun _ _ => 0)
  case atStart => exact ⟨rfl, b3⟩
  case round =>
    obtain ⟨rfl, b3⟩ := hrel
    go_wp2_with fail
    go_ret
    exact ⟨HQ.out _ _, b3⟩
end Go.Proofs.YtgflodjohaemiaaDoor.Ky
