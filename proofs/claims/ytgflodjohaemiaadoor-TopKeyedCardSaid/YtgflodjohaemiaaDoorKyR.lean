/-
  CHARTS: TOP: begins17: walked.
-/
import Derived.Test.YtgflodjohaemiaaDoorKyQ
namespace Go.Proofs.YtgflodjohaemiaaDoor.Ky
open Go.ChangeShapes Go.WideShapes Go.ChangeAt Go.RowKit Go.Maps
open Go.Proofs.YtgflodjohaemiaaDoor
open Go.Proofs.YtgflodjohaemiaaDoor.Wd
open Go.Proofs.YtgflodjohaemiaaDoor.Sl
open Go.Proofs.YtgflodjohaemiaaDoor.Mp (Smap wpList_look_yes wpList_look_no wpList_mput mput mput_same mput_other kS hR)
open Go.Proofs.YtgflodjohaemiaaDoor.Mr (Rmap rk row_key rowV)
open Go.Proofs.YtgflodjohaemiaaDoor.Utf (L)
set_option linter.unusedVariables false
set_option linter.unusedSimpArgs false
abbrev pAb : ByteArray := ⟨#[65, 92, 98]⟩
abbrev sA : ByteArray := ⟨#[65]⟩
abbrev sb : ByteArray := ⟨#[98]⟩
theorem pAb_ok : PathOk pAb := ⟨by decide, by decide, by
    have := plain_asc (l := [65, 92, 98]) (r := []) (by intro b hb; simp at hb; rcases hb with rfl | rfl | rfl <;> decide)
    rw [List.append_nil] at this; exact this.trans rfl, by decide, parts_ne (a := [65]) (b := [98]) rfl (by simp) (by simp) (by decide) (by decide)⟩
set_option maxRecDepth 100000 in
set_option maxHeartbeats 6400000 in
theorem begins_any (w : World) (hM : MaxC w) : Calls Tryd.prog 4 #[] w fun x w' => x = .returned (.bool true) ∧ Below w.heap.size w w' := by
  have hpu := put_any none 0 0 0 [] pAb none 0 0 [] (fun _ => False) w (fun _ h => h.elim) (fun k hk => (by cases hk)) hM ⟨Sls.none_, fun k hk => (by cases hk)⟩ (Nat.zero_le _) (by decide) (fun k hk => (by cases hk)) (by simp) pAb_ok (fun k hk => (by cases hk)) Sls.none_ (by decide) (fun k hk => (by cases hk))
  go_enter Tryd.func4, Tryd.ntmps4
  go_wp2_with fail
  refine hpu.mono ?_; rintro x w1 ⟨⟨A', n', c', hs', rfl, hV, hct, -, -⟩, b1⟩
  have hl : hs'.length = 1 := by have := congrArg List.length hct; simpa using this
  obtain rfl : n' = 1 := by have := hV.s.len; omega
  have hp0 : (hs'.getD 0 Hk.nil).p = pAb := by
    match hs', hl with
    | [k], _ => have := congrArg (fun l => (l.getD 0 (ByteArray.empty, 0, [])).1) hct; exact this
  have b2 := bal b1 (.cells #[.slice A' 1 c'] 29)
  have x2 := Blk.new w1 29 #[.slice A' 1 c']
  have hun := under_any A' 1 c' w1.heap.size hs' sA [sb] (w1.alloc (.cells #[.slice A' 1 c'] 29)) (hV.below (bal (Below.refl _ w1) _)) (by rw [size_al]; omega) (by decide) (by decide) rfl (fun j hj => by
    obtain rfl : j = 0 := by omega
    rw [hp0]; exact ⟨rfl, by decide, by decide⟩)
  have hms := fun W => missing0_any W
  clear hpu hV hct hp0
  go_upto_region 2 with (refine wpList_store_new rfl 29 _ _ rfl rfl w1.heap.size #[.slice A' 1 c'] rfl rfl _ #[.slice none 0 0] w1 rfl rfl rfl (by kernel_rfl) (by kernel_rfl) ?_)
  generalize w1.alloc (.cells #[.slice A' 1 c'] 29) = W at *
  go_wp2_with (refine wpList_row_g rfl 29 _ rfl _ rfl _ _ _ _ x2 Tryd.underlying29 rfl (by kernel_rfl) ?_)
  refine hun.mono ?_; rintro x w3 ⟨⟨A2, c2, rfl, hsl⟩, b3⟩
  have b3 := bcl b2 b3
  have b4 := bal b3 (.cells #[.string sb] 9)
  have bW := bal (Below.refl _ w3) (.cells #[.string sb] 9)
  have r4 := Sls.of_blk (f := stC) (sz := 1) (L := [sb]) (fun _ => rfl) (Blk.new w3 9 #[.string sb]) rfl
  have htx := texts_eq A2 (some ⟨w3.heap.size, 0, none⟩) 1 c2 1 [sb] (w3.alloc (.cells #[.string sb] 9)) ((hsl.below bW).more bW.size) r4 (by decide)
  go_wp2_with fail
  refine htx.mono ?_; rintro x w5 ⟨rfl, b5⟩
  have b5 := bcl b4 b5
  go_wp2_with fail
  refine (hms _).mono ?_; rintro x w6 ⟨rfl, b6⟩
  have b6 := bcl b5 b6
  go_wp2_with fail
  go_ret
  exact ⟨rfl, b6⟩
end Go.Proofs.YtgflodjohaemiaaDoor.Ky
