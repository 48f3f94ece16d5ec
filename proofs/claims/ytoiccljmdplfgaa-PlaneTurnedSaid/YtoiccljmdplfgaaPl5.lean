/-
  THE PLANE: PlaneTurned walked: where a point is not right.
-/
import Derived.Test.YtoiccljmdplfgaaPl4
import Derived.Laws.Cover1
namespace Go.Proofs.Ytoiccljmdplfgaa.Pl
open Go.ChangeShapes Go.WideShapes Go.ChangeAt Go.RowKit
open Go.Proofs.Ytoiccljmdplfgaa
open Go.Proofs.Ytoiccljmdplfgaa.Wd
open Go.Proofs.Ytoiccljmdplfgaa.Flo (fl Is)
set_option linter.unusedVariables false
attribute [local go_sem ↓] Go.wp_at_zero Go.wp_at_succ
def mx (x y : Int) : Int := if y > x then y else x
def mn (x y : Int) : Int := if y < x then y else x
theorem mx_bd (x y : Int) : x ≤ mx x y ∧ y ≤ mx x y ∧ (mx x y = x ∨ mx x y = y) := by unfold mx; split <;> omega
theorem mn_bd (x y : Int) : mn x y ≤ x ∧ mn x y ≤ y ∧ (mn x y = x ∨ mn x y = y) := by unfold mn; split <;> omega
def max6 (a b c d e f : Int) : Int := mx (mx (mx (mx (mx a b) c) d) e) f
def min6 (a b c d e f : Int) : Int := mn (mn (mn (mn (mn a b) c) d) e) f
theorem run_max6 {P : Program} (w : World) (ts : Array TypeId) (t : TypeId) (a b c d e f : Int) :
    (Builtin.max_ ts t #[.int .i64 a, .int .i64 b, .int .i64 c, .int .i64 d, .int .i64 e, .int .i64 f]).run P w = .ok (.int .i64 (max6 a b c d e f)) w := by
  simp [Builtin.max_, Builtin.max2, max6, mx]
theorem run_min6 {P : Program} (w : World) (ts : Array TypeId) (t : TypeId) (a b c d e f : Int) :
    (Builtin.min_ ts t #[.int .i64 a, .int .i64 b, .int .i64 c, .int .i64 d, .int .i64 e, .int .i64 f]).run P w = .ok (.int .i64 (min6 a b c d e f)) w := by
  simp [Builtin.min_, Builtin.min2, min6, mn]
  rfl
theorem max6_le {a b c d e f B : Int} : max6 a b c d e f ≤ B ↔ a ≤ B ∧ b ≤ B ∧ c ≤ B ∧ d ≤ B ∧ e ≤ B ∧ f ≤ B := by
  unfold max6
  have h1 := mx_bd a b
  generalize mx a b = x1 at *
  have h2 := mx_bd x1 c
  generalize mx x1 c = x2 at *
  have h3 := mx_bd x2 d
  generalize mx x2 d = x3 at *
  have h4 := mx_bd x3 e
  generalize mx x3 e = x4 at *
  have h5 := mx_bd x4 f
  omega
theorem min6_ge {a b c d e f B : Int} : B ≤ min6 a b c d e f ↔ B ≤ a ∧ B ≤ b ∧ B ≤ c ∧ B ≤ d ∧ B ≤ e ∧ B ≤ f := by
  unfold min6
  have h1 := mn_bd a b
  generalize mn a b = x1 at *
  have h2 := mn_bd x1 c
  generalize mn x1 c = x2 at *
  have h3 := mn_bd x2 d
  generalize mn x2 d = x3 at *
  have h4 := mn_bd x3 e
  generalize mn x3 e = x4 at *
  have h5 := mn_bd x4 f
  omega
theorem tmod8 (n : Int) : -7 ≤ n.tmod 8 ∧ n.tmod 8 ≤ 7 := by
  have h2 := Int.tmod_lt_of_pos n (show (0 : Int) < 8 by decide)
  by_cases hz : 0 ≤ n
  · have := Int.tmod_nonneg 8 hz; omega
  · have h3 : (-n).tmod 8 = -(n.tmod 8) := Int.neg_tmod ..
    have h4 := Int.tmod_lt_of_pos (-n) (show (0 : Int) < 8 by decide)
    have h5 := Int.tmod_nonneg 8 (show 0 ≤ -n by omega)
    omega
end Go.Proofs.Ytoiccljmdplfgaa.Pl
