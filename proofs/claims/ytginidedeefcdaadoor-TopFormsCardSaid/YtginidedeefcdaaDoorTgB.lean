/-
  begins13, WALKED.
-/
import Derived.Test.YtginidedeefcdaaDoorFtU
import Derived.Test.YtginidedeefcdaaDoorShF
namespace Go.Proofs.YtginidedeefcdaaDoor.Ft
open Go.ChangeShapes Go.WideShapes Go.ChangeAt Go.RowKit
open Go.Proofs.YtginidedeefcdaaDoor
open Go.Proofs.YtginidedeefcdaaDoor.Wd
open Go.Proofs.YtginidedeefcdaaDoor.Rec
open Go.Proofs.YtginidedeefcdaaDoor.Yr
open Go.Proofs.YtginidedeefcdaaDoor.Tb
open Go.Proofs.YtginidedeefcdaaDoor.Civ (Tab Inv)
set_option linter.unusedVariables false
set_option linter.unusedSimpArgs false
theorem fv_13 : fyR (List.take 1 [⟨0, 3600, false⟩]) 1970 = ⟨-60, 0, 0, St.nil, St.nil⟩ ∧ fyW (List.take 1 [⟨0, 3600, false⟩]) 1970 = 0 ∧ fyE (List.take 1 [⟨0, 3600, false⟩]) 1970 = 0 := ⟨by kernel_rfl, by kernel_rfl, by kernel_rfl⟩
theorem yv_13 {g : Nat} {t : TypeId} {W : World} (hT : Tab W) (x : Blk W g t #[.int .i64 0, .int .i64 3600, .bool false]) :
    Calls Tryd.prog 13 #[.slice (some ⟨g, 0, none⟩) 1 1, .int .i64 1970] W fun e w' => e = .returned (.tuple #[Rc.V ⟨-60, 0, 0, St.nil, St.nil⟩, .int .u8 0, .int .i64 0]) ∧ Below W.heap.size W w' :=
  year_at (L := [⟨0, 3600, false⟩]) hT x (by decide) (by decide) fv_13.1 fv_13.2.1 fv_13.2.2
theorem fm_13 {W : World} (hT : Tab W) :
    Calls Tryd.prog 35 #[.agg #[.int .u16 0, .int .u16 1, .int .u16 4, .int .u16 1, .int .u16 0, .int .u16 0, .int .u16 0, .int .u16 0], .int .i64 1970] W fun e w' => ∃ g c, e = .returned (.tuple #[.slice (some ⟨g, 0, none⟩) 2 c, .int .i64 0]) ∧ Below W.heap.size W w' := by
  have := Sh.forms_yes ⟨0, 1, 4, 1, 0, 0, 0, 0⟩ 1970 W hT (by constructor <;> decide) (by kernel_rfl)
  refine this.mono ?_
  rintro e w' ⟨g, n, c, rfl, hn, _, _, _, hb⟩
  rw [show (Sh.fmL ⟨0, 1, 4, 1, 0, 0, 0, 0⟩ 1970).length = 2 by kernel_rfl] at hn
  subst hn
  exact ⟨g, c, rfl, hb⟩
set_option maxRecDepth 100000 in
set_option maxHeartbeats 6400000 in
theorem begins13_any (w : World) (hT : Tab w) :
    Calls Tryd.prog 34 #[] w fun e w' => e = .returned (.bool true) ∧ Below w.heap.size w w' := by
  have i0 := Inv.start hT
  have hq : ∀ w, (binOp .eql 28 (.agg #[.int .i32 (-60), .int .i32 (0), .int .i32 (0), .int .u16 0, .int .u16 0, .int .u16 0, .int .u16 0, .int .u16 0, .int .u16 0, .int .u16 0, .int .u16 0, .int .u16 0, .int .u16 0, .int .u16 0, .int .u16 0, .int .u16 0, .int .u16 0, .int .u16 0, .int .u16 0]) (.agg #[.int .i32 (-60), .int .i32 (0), .int .i32 (0), .int .u16 0, .int .u16 0, .int .u16 0, .int .u16 0, .int .u16 0, .int .u16 0, .int .u16 0, .int .u16 0, .int .u16 0, .int .u16 0, .int .u16 0, .int .u16 0, .int .u16 0, .int .u16 0, .int .u16 0, .int .u16 0])).run Tryd.prog w = .ok (.bool true) w := fun w => (eq_rc (-60) 0 0 (-60) 0 0 St.nil St.nil St.nil St.nil w).trans (by rw [show eqR (-60) 0 0 St.nil St.nil (-60) 0 0 St.nil St.nil = true by decide])
  go_enter Tryd.func34, Tryd.ntmps34
  go_wp2_with fail
  have l_1 := (Wd.Blk.new w 40 #[.int .i64 0, .int .i64 3600, .bool false])
  have inv_1 := (i0.alloc (.cells #[.int .i64 0, .int .i64 3600, .bool false] 40))
  refine (yv_13 inv_1.1 l_1).mono ?_; rintro e w_1 ⟨rfl, hb_1⟩
  have lc_1 := l_1.below hb_1 l_1.lt
  have invc_1 := inv_1.call hb_1
  clear l_1 inv_1 hb_1
  go_wp2_with (first | refine wpList_store_new rfl 28 _ _ rfl rfl w_1.heap.size #[.int .i32 (-60), .int .i32 (0), .int .i32 (0), .int .u16 0, .int .u16 0, .int .u16 0, .int .u16 0, .int .u16 0, .int .u16 0, .int .u16 0, .int .u16 0, .int .u16 0, .int .u16 0, .int .u16 0, .int .u16 0, .int .u16 0, .int .u16 0, .int .u16 0, .int .u16 0] rfl rfl _ #[.int .i32 0, .int .i32 0, .int .i32 0, .int .u16 0, .int .u16 0, .int .u16 0, .int .u16 0, .int .u16 0, .int .u16 0, .int .u16 0, .int .u16 0, .int .u16 0, .int .u16 0, .int .u16 0, .int .u16 0, .int .u16 0, .int .u16 0, .int .u16 0, .int .u16 0] w_1 rfl rfl rfl (by kernel_rfl) (by kernel_rfl) ?_)
  have r_2 := (Wd.Blk.new w_1 28 #[.int .i32 (-60), .int .i32 (0), .int .i32 (0), .int .u16 0, .int .u16 0, .int .u16 0, .int .u16 0, .int .u16 0, .int .u16 0, .int .u16 0, .int .u16 0, .int .u16 0, .int .u16 0, .int .u16 0, .int .u16 0, .int .u16 0, .int .u16 0, .int .u16 0, .int .u16 0])
  have inv_2 := (invc_1.alloc (.cells #[.int .i32 (-60), .int .i32 (0), .int .i32 (0), .int .u16 0, .int .u16 0, .int .u16 0, .int .u16 0, .int .u16 0, .int .u16 0, .int .u16 0, .int .u16 0, .int .u16 0, .int .u16 0, .int .u16 0, .int .u16 0, .int .u16 0, .int .u16 0, .int .u16 0, .int .u16 0] 28))
  refine (fm_13 inv_2.1).mono ?_; rintro e w_x ⟨g, c, rfl, hbx⟩
  have rx := r_2.below hbx r_2.lt; have ix := inv_2.call hbx
  go_wp2_with (first | refine wpList_row_g rfl 28 _ rfl _ rfl _ _ _ _ rx Tryd.underlying28 rfl (by kernel_rfl) ?_)
  go_ret
  exact ⟨rfl, ix.2⟩
end Go.Proofs.YtginidedeefcdaaDoor.Ft
