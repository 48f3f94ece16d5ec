/-
  THE PLANE: PlaneTurned answers true at all points and numbers.
-/
import Derived.Test.YtoiccljmdplfgaaPl6
import Derived.Test.YtoiccljmdplfgaaPl7
namespace Go.Proofs.Ytoiccljmdplfgaa.Pl
open Go.ChangeShapes Go.WideShapes Go.ChangeAt Go.RowKit
open Go.Proofs.Ytoiccljmdplfgaa
theorem turned_any (a1 a2 b1 b2 c1 c2 n m : Int) (w : World) (hn : -9223372036854775808 ≤ n ∧ n ≤ 9223372036854775807) (hm : -9223372036854775808 ≤ m ∧ m ≤ 9223372036854775807) :
    Calls Try.prog 3 #[.agg #[.int .i64 a1, .int .i64 a2], .agg #[.int .i64 b1, .int .i64 b2], .agg #[.int .i64 c1, .int .i64 c2], .int .i64 n, .int .i64 m] w fun e w' => e = .returned (.bool true) ∧ Below w.heap.size w w' := by
  by_cases h : ok3 ⟨a1, a2⟩ ⟨b1, b2⟩ ⟨c1, c2⟩ = true
  · obtain ⟨ha, hb, hc⟩ := ok3_iff.1 h
    cases hK : betV ⟨a1, a2⟩ ⟨b1, b2⟩ ⟨c1, c2⟩
    · exact turned_no a1 a2 b1 b2 c1 c2 n m w ha hb hc hn hm hK
    · exact turned_yes a1 a2 b1 b2 c1 c2 n m w ha hb hc hn hm hK
  · exact turned_bad a1 a2 b1 b2 c1 c2 n m w (by simpa using h)
end Go.Proofs.Ytoiccljmdplfgaa.Pl
