/-
  RECORDS: RecordBack, for every text.
-/
import Derived.Test.YtcjjgfejamddjaaDoorRecW
namespace Go.Proofs.YtcjjgfejamddjaaDoor.Rec
open Go.ChangeShapes Go.WideShapes Go.ChangeAt Go.RowKit
open Go.Proofs.YtcjjgfejamddjaaDoor
open Go.Proofs.YtcjjgfejamddjaaDoor.Wd
open Go.Proofs.YtcjjgfejamddjaaDoor.Civ (Tab Inv)
set_option linter.unusedVariables false
set_option maxRecDepth 20000 in
set_option maxHeartbeats 3200000 in
theorem back_big (b c d : Int) (p q : St) (s : ByteArray) (x y : Int) (sx sy : St) (w : World) (hT : Tab w) (hs : (1000 : Int) < (s.size : Int)) (hs2 : (s.size : Int) ≤ 9223372036854775807) :
    Calls Tryd.prog 8 #[rcV b c d p q, .string s, .int .i64 x, .int .i64 y, .agg (sA sx), .agg (sA sy)] w fun e w' => e = .returned (.bool true) ∧ Below w.heap.size w w' := by
  have i0 := Civ.Inv.start hT
  go_enter Tryd.func8, Tryd.ntmps8
  go_wp2_with fail
  have i1 := ((i0.alloc (.cells (rcA b c d p q) 53)).alloc (.cells (sA sx) 41)).alloc (.cells (sA sy) 41)
  refine (lives_any _ i1.1).mono ?_; rintro e w1 ⟨rfl, hb1⟩
  have i2 := i1.call hb1
  go_wp2_with fail
  go_ret
  exact ⟨rfl, i2.2⟩
theorem back_any (b c d : Int) (p q : St) (s : ByteArray) (x y : Int) (sx sy : St) (w : World) (hT : Tab w) (B : RBd b c d p q) (Bx : sx.Bd) (By : sy.Bd)
    (hx : -9223372036854775808 ≤ x ∧ x ≤ 9223372036854775807) (hy : -9223372036854775808 ≤ y ∧ y ≤ 9223372036854775807) (hs2 : s.size ≤ 9223372036854775807) :
    Calls Tryd.prog 8 #[rcV b c d p q, .string s, .int .i64 x, .int .i64 y, .agg (sA sx), .agg (sA sy)] w fun e w' => e = .returned (.bool true) ∧ Below w.heap.size w w' := by
  by_cases hs : (1000 : Int) < (s.size : Int)
  · exact back_big b c d p q s x y sx sy w hT hs (by omega)
  · exact back_all b c d p q s x y sx sy w hT B Bx By hx hy hs
end Go.Proofs.YtcjjgfejamddjaaDoor.Rec
