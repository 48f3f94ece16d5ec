/-
  THE SPANS OF A YEAR where there are none: the record is not right, or the year is not one of the law's.
-/
import Derived.Test.YtgdgkgeoigljcaaDoorSp
namespace Go.Proofs.YtgdgkgeoigljcaaDoor.Tb
open Go.ChangeShapes Go.WideShapes Go.ChangeAt Go.RowKit
open Go.Proofs.YtgdgkgeoigljcaaDoor
open Go.Proofs.YtgdgkgeoigljcaaDoor.Wd
open Go.Proofs.YtgdgkgeoigljcaaDoor.Rec
open Go.Proofs.YtgdgkgeoigljcaaDoor.Yr
open Go.Proofs.YtgdgkgeoigljcaaDoor.Tb
open Go.Proofs.YtgdgkgeoigljcaaDoor.Civ (Tab Inv)
set_option linter.unusedVariables false
set_option linter.unusedSimpArgs false
set_option maxRecDepth 100000 in
set_option maxHeartbeats 3200000 in
theorem spans_no (r : Rc) (Y E : Int) (w : World) (hT : Tab w) (B : r.Bd) (he : trE r.b r.c r.d r.p r.q Y = E) (h0 : E ≠ 0) :
    Calls Tryd.prog 13 #[r.V, .int .i64 Y] w fun e w' => e = .returned (.tuple #[.slice none 0 0, .int .i64 E]) ∧ Below w.heap.size w w' := by
  have i0 := Civ.Inv.start hT
  have hto : ∀ w, Tab w → Calls Tryd.prog 44 #[r.V, .int .i64 Y] w fun e w' => e = .returned (.tuple #[twoV (trA r.b r.c r.d r.p r.q Y) (trB r.b r.c r.d r.p r.q Y), .int .i64 E]) ∧ Below w.heap.size w w' := fun w hT => by
    have := turns_any r.b r.c r.d r.p r.q Y w hT B
    rwa [he] at this
  have hEb : (E != 0) = true := by rw [bne_iff_ne]; exact h0
  clear he
  generalize trA r.b r.c r.d r.p r.q Y = ta at *
  generalize trB r.b r.c r.d r.p r.q Y = tb at *
  go_enter Tryd.func13, Tryd.ntmps13
  go_wp2_with (first | refine wpList_row_g rfl 26 _ rfl _ rfl _ _ _ _ (Wd.Blk.new w 26 (rcA r.b r.c r.d r.p r.q)) Tryd.underlying26 rfl (by kernel_rfl) ?_)
  have r_1 := (Wd.Blk.new w 26 (rcA r.b r.c r.d r.p r.q))
  have inv_1 := (i0.alloc (.cells (rcA r.b r.c r.d r.p r.q) 26))
  refine (hto _ inv_1.1).mono ?_; rintro e w_1 ⟨rfl, hb_1⟩
  have rc_1 := r_1.below hb_1 r_1.lt
  have invc_1 := inv_1.call hb_1
  clear r_1 inv_1 hb_1
  have r_2 := (rc_1.alloc (.cells #[.int .i64 ta, .int .i64 tb] 75))
  have t_2 := (Wd.Blk.new w_1 75 #[.int .i64 ta, .int .i64 tb])
  have inv_2 := (invc_1.alloc (.cells #[.int .i64 ta, .int .i64 tb] 75))
  go_wp2_with fail
  first | go_ret | go_ret2
  exact ⟨rfl, inv_2.2⟩
end Go.Proofs.YtgdgkgeoigljcaaDoor.Tb
