/-
  FitAll, WALKED.
-/
import Derived.Test.YtginidedeefcdaaDoorFtV
import Derived.Test.YtginidedeefcdaaDoorFtE
import Derived.Test.YtginidedeefcdaaDoorFtA
import Derived.Test.YtginidedeefcdaaDoorSpE
namespace Go.Proofs.YtginidedeefcdaaDoor.Ft
open Go.ChangeShapes Go.WideShapes Go.ChangeAt Go.RowKit
open Go.Proofs.YtginidedeefcdaaDoor
open Go.Proofs.YtginidedeefcdaaDoor.Wd
open Go.Proofs.YtginidedeefcdaaDoor.Rec
open Go.Proofs.YtginidedeefcdaaDoor.Yr
open Go.Proofs.YtginidedeefcdaaDoor.Tb
open Go.Proofs.YtginidedeefcdaaDoor.Civ (Tab Inv)
set_option linter.unusedVariables false
set_option linter.unusedSimpArgs false
set_option maxRecDepth 100000 in
set_option maxHeartbeats 3200000 in
theorem all_bad (r : Rc) (Y : Int) (w : World) (hT : Tab w) (hsp : ∀ w, Tab w → Calls Tryd.prog 23 #[r.V, .int .i64 Y] w fun e w' => e = .returned (.tuple #[.slice none 0 0, .int .i64 2]) ∧ Below w.heap.size w w')
    (hck : ∀ w, Tab w → Calls Tryd.prog 24 #[r.V] w fun e w' => e = .returned (.int .i64 2) ∧ Below w.heap.size w w') :
    Calls Tryd.prog 6 #[r.V, .int .i64 Y] w fun e w' => e = .returned (.bool true) ∧ Below w.heap.size w w' := by
  have i0 := Inv.start hT
  go_enter Tryd.func6, Tryd.ntmps6
  go_wp2_with fail
  have r_1 := (Wd.Blk.new w 28 (rcA r.b r.c r.d r.p r.q))
  have inv_1 := (i0.alloc (.cells (rcA r.b r.c r.d r.p r.q) 28))
  refine (lives_any _ inv_1.1).mono ?_; rintro e w_1 ⟨rfl, hb_1⟩
  have rc_1 := r_1.below hb_1 r_1.lt
  have invc_1 := inv_1.call hb_1
  clear r_1 inv_1 hb_1
  go_wp2_with (first | refine wpList_row_g rfl 28 _ rfl _ rfl _ _ _ _ rc_1 Tryd.underlying28 rfl (by kernel_rfl) ?_)
  have r_2 := rc_1
  have inv_2 := invc_1
  refine (hsp _ inv_2.1).mono ?_; rintro e w_2 ⟨rfl, hb_2⟩
  have rc_2 := r_2.below hb_2 r_2.lt
  have invc_2 := inv_2.call hb_2
  clear r_2 inv_2 hb_2
  go_wp2_with (first | refine wpList_row_g rfl 28 _ rfl _ rfl _ _ _ _ rc_2 Tryd.underlying28 rfl (by kernel_rfl) ?_)
  have r_3 := rc_2
  have inv_3 := invc_2
  refine (hck _ inv_3.1).mono ?_; rintro e w_3 ⟨rfl, hb_3⟩
  have rc_3 := r_3.below hb_3 r_3.lt
  have invc_3 := inv_3.call hb_3
  clear r_3 inv_3 hb_3
  go_wp2_with fail
  go_ret
  exact ⟨rfl, invc_3.2⟩
set_option maxRecDepth 100000 in
set_option maxHeartbeats 3200000 in
theorem all_out (r : Rc) (Y : Int) (w : World) (hT : Tab w) (hsp : ∀ w, Tab w → Calls Tryd.prog 23 #[r.V, .int .i64 Y] w fun e w' => e = .returned (.tuple #[.slice none 0 0, .int .i64 1]) ∧ Below w.heap.size w w')
    :
    Calls Tryd.prog 6 #[r.V, .int .i64 Y] w fun e w' => e = .returned (.bool true) ∧ Below w.heap.size w w' := by
  have i0 := Inv.start hT
  go_enter Tryd.func6, Tryd.ntmps6
  go_wp2_with fail
  have r_1 := (Wd.Blk.new w 28 (rcA r.b r.c r.d r.p r.q))
  have inv_1 := (i0.alloc (.cells (rcA r.b r.c r.d r.p r.q) 28))
  refine (lives_any _ inv_1.1).mono ?_; rintro e w_1 ⟨rfl, hb_1⟩
  have rc_1 := r_1.below hb_1 r_1.lt
  have invc_1 := inv_1.call hb_1
  clear r_1 inv_1 hb_1
  go_wp2_with (first | refine wpList_row_g rfl 28 _ rfl _ rfl _ _ _ _ rc_1 Tryd.underlying28 rfl (by kernel_rfl) ?_)
  have r_2 := rc_1
  have inv_2 := invc_1
  refine (hsp _ inv_2.1).mono ?_; rintro e w_2 ⟨rfl, hb_2⟩
  have rc_2 := r_2.below hb_2 r_2.lt
  have invc_2 := inv_2.call hb_2
  clear r_2 inv_2 hb_2
  go_wp2_with fail
  go_ret
  exact ⟨rfl, invc_2.2⟩
set_option maxRecDepth 100000 in
set_option maxHeartbeats 3200000 in
theorem all_good (r : Rc) (Y : Int) (w : World) (hT : Tab w) (s : Rc) (l : List Sp) (hl : spL r Y = l) (hl2 : spL s Y = l) (hln : l.length ≤ 3)
    (hsp : ∀ w, Tab w → Calls Tryd.prog 23 #[r.V, .int .i64 Y] w fun e w' => ∃ g n c, e = .returned (.tuple #[.slice (some ⟨g, 0, none⟩) n c, .int .i64 0]) ∧ n = (spL r Y).length ∧ n ≤ c ∧ Reads w' w'.heap.size 3 (some ⟨g, 0, none⟩) n (flatS (spL r Y)) ∧ w.heap.size ≤ g ∧ Below w.heap.size w w')
    (hsp2 : ∀ w, Tab w → Calls Tryd.prog 23 #[s.V, .int .i64 Y] w fun e w' => ∃ g n c, e = .returned (.tuple #[.slice (some ⟨g, 0, none⟩) n c, .int .i64 0]) ∧ n = (spL s Y).length ∧ n ≤ c ∧ Reads w' w'.heap.size 3 (some ⟨g, 0, none⟩) n (flatS (spL s Y)) ∧ w.heap.size ≤ g ∧ Below w.heap.size w w')
    (hfy : ∀ w A n c, Tab w → Spans w w.heap.size A n l → n ≤ 3 → n ≤ c → Calls Tryd.prog 13 #[.slice A n c, .int .i64 Y] w fun e w' => e = .returned (.tuple #[s.V, .int .u8 0, .int .i64 0]) ∧ Below w.heap.size w w') :
    Calls Tryd.prog 6 #[r.V, .int .i64 Y] w fun e w' => e = .returned (.bool true) ∧ Below w.heap.size w w' := by
  have i0 := Inv.start hT
  go_enter Tryd.func6, Tryd.ntmps6
  go_wp2_with fail
  have r_1 := (Wd.Blk.new w 28 (rcA r.b r.c r.d r.p r.q))
  have inv_1 := (i0.alloc (.cells (rcA r.b r.c r.d r.p r.q) 28))
  refine (lives_any _ inv_1.1).mono ?_; rintro e w_1 ⟨rfl, hb_1⟩
  have rc_1 := r_1.below hb_1 r_1.lt
  have invc_1 := inv_1.call hb_1
  clear r_1 inv_1 hb_1
  go_wp2_with (first | refine wpList_row_g rfl 28 _ rfl _ rfl _ _ _ _ rc_1 Tryd.underlying28 rfl (by kernel_rfl) ?_)
  have r_2 := rc_1
  have inv_2 := invc_1
  refine (hsp _ inv_2.1).mono ?_; rintro e w_x ⟨g, n, c, rfl, hn, hnc, hrd, hg, hbx⟩
  rw [hl] at hn hrd
  have sp1 : Spans w_x w_x.heap.size (some ⟨g, 0, none⟩) n l := ⟨hn.symm, hrd⟩
  have hn3 : n ≤ 3 := by rw [hn]; exact hln
  have HN := Lib.hid hn; clear hn
  have ix := inv_2.call hbx
  clear hbx hrd hg hl inv_2 r_2
  go_wp2_with fail
  refine (hfy _ (some ⟨g, 0, none⟩) n c ix.1 sp1 hn3 hnc).mono ?_; rintro e w_y ⟨rfl, hby⟩
  have iy := ix.call hby; have sp2 := (sp1.below hby).more hby.size; clear sp1 ix hby hfy
  go_wp2_with (first | refine wpList_store_new rfl 28 _ _ rfl rfl w_y.heap.size (rcA s.b s.c s.d s.p s.q) rfl rfl _ #[.int .i32 0, .int .i32 0, .int .i32 0, .int .u16 0, .int .u16 0, .int .u16 0, .int .u16 0, .int .u16 0, .int .u16 0, .int .u16 0, .int .u16 0, .int .u16 0, .int .u16 0, .int .u16 0, .int .u16 0, .int .u16 0, .int .u16 0, .int .u16 0, .int .u16 0] w_y rfl rfl rfl (by kernel_rfl) (by kernel_rfl) ?_ | refine wpList_row_g rfl 28 _ rfl _ rfl _ _ _ _ (Wd.Blk.new w_y 28 (rcA s.b s.c s.d s.p s.q)) Tryd.underlying28 rfl (by kernel_rfl) ?_)
  have s_3 := (Wd.Blk.new w_y 28 (rcA s.b s.c s.d s.p s.q))
  have inv_3 := (iy.alloc (.cells (rcA s.b s.c s.d s.p s.q) 28))
  refine (hsp2 _ inv_3.1).mono ?_; rintro e w_z ⟨g2, n2, c2, rfl, hn2, hnc2, hrd2, hg2, hbz⟩
  rw [hl2] at hn2 hrd2
  have hn := HN.out
  obtain rfl : n2 = n := by omega
  have hm : n2 ≤ maxLen := by unfold maxLen; omega
  have sp4 : Spans w_z w_z.heap.size (some ⟨g2, 0, none⟩) n2 l := ⟨hn.symm, hrd2⟩
  clear hn hn2 HN hn3 hln
  have ba := (Below.refl w_y.heap.size w_y).alloc (Nat.le_refl _) (.cells (rcA s.b s.c s.d s.p s.q) 28)
  have sp3 := ((((sp2.below ba).more ba.size).below hbz).more hbz.size)
  have iz := inv_3.call hbz
  clear sp2 ba hbz hrd2 hg2 hl2 hsp2 inv_3
  go_wp2_with fail
  refine (same_eq _ _ n2 _ _ l w_z sp3 sp4 hm).mono ?_; rintro e w_q ⟨rfl, hbq⟩
  have iq := iz.call hbq
  go_wp2_with fail
  go_ret
  exact ⟨rfl, iq.2⟩
theorem all_any (r : Rc) (Y : Int) (w : World) (hT : Tab w) (B : r.Bd) :
    Calls Tryd.prog 6 #[r.V, .int .i64 Y] w fun e w' => e = .returned (.bool true) ∧ Below w.heap.size w w' := by
  cases hk : r.ok with
  | false =>
    have he : trE r.b r.c r.d r.p r.q Y = 2 := by unfold trE; rw [if_pos hk]
    exact all_bad r Y w hT (fun w hT => spans_no r Y 2 w hT B he (by decide)) (fun w hT => by have := chk_any r.b r.c r.d r.p r.q w hT B; unfold rcE at this; rw [if_neg (by rw [show rcOk r.b r.c r.d r.p r.q = false from hk]; decide)] at this; exact this)
  | true =>
    by_cases hY : 1601 ≤ Y ∧ Y ≤ 9999
    · have ft := all_fit B hk hY.1 hY.2
      obtain ⟨a, b, c, d⟩ := all_law B hk hY.1 hY.2
      have h3 := spL_len r Y
      refine all_good r Y w hT (fitR (spL r Y) Y) (spL r Y) rfl ft.sp h3.2 (fun w hT => spans_yes r Y w hT B hk hY.1 hY.2) (fun w hT => spans_yes _ Y w hT ft.b ft.ok hY.1 hY.2) (fun w A n cp hT hs h3 hc => ?_)
      have hY' : inY Y = true := by unfold inY; exact decide_eq_true hY
      have hrg : rgB (spL r Y) Y = true := by unfold rgB; rw [a]; exact decide_eq_true ⟨b, c⟩
      have := year_any A n cp (spL r Y) Y w hT hs (by unfold maxLen; omega) hc
      rw [show fyE (spL r Y) Y = 0 by unfold fyE; rw [hY', hrg]; rfl, show fyW (spL r Y) Y = 0 by unfold fyW; rw [hY', hrg]; exact d, show fyR (spL r Y) Y = fitR (spL r Y) Y by unfold fyR fyB; rw [hY', hrg, d]; rfl] at this
      exact this
    · have he : trE r.b r.c r.d r.p r.q Y = 1 := by unfold trE; rw [if_neg (by rw [show rcOk r.b r.c r.d r.p r.q = true from hk]; decide), if_pos hY]
      exact all_out r Y w hT (fun w hT => spans_no r Y 1 w hT B he (by decide))
end Go.Proofs.YtginidedeefcdaaDoor.Ft
