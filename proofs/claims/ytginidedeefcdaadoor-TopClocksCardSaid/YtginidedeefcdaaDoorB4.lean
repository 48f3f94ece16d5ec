/-
  begins4 and Instant on a seat without abbr's formats.
-/
import Derived.Test.YtginidedeefcdaaDoorOf
import Derived.Test.YtginidedeefcdaaDoorMom
namespace Go.Proofs.YtginidedeefcdaaDoor.Ab
open Go.ChangeShapes Go.WideShapes Go.ChangeAt Go.RowKit
open Go.Proofs.YtginidedeefcdaaDoor
open Go.Proofs.YtginidedeefcdaaDoor.Wd
set_option linter.unusedVariables false
theorem offset_at {o : Int} {w : World} {x : ByteArray} {n : Int} (h : offT o = L x) (h2 : offE o = n) :
    Calls Tryd.prog 67 #[.int .i64 o] w fun e w' => e = .returned (.tuple #[.string x, .int .i64 n]) ∧ Below w.heap.size w w' := by
  refine (offset_any o w).mono fun e w' q => ⟨?_, q.2⟩
  rw [q.1, h, h2]
set_option maxHeartbeats 1600000 in
theorem instant_ok (n c s v : Int) (w : World) (hc : 0 ≤ c ∧ c < 3) (hn : -1099511627776 ≤ n ∧ n ≤ 1099511627776) (hs : -1099511627776 ≤ s ∧ s ≤ 1099511627776) (hv : -1099511627776 ≤ v ∧ v ≤ 1099511627776) :
    Calls Tryd.prog 32 #[.int .i64 n, .int .u8 c, .int .i64 s, .int .i64 v] w fun e w' => e = .returned (.tuple #[.int .i64 (if c = 0 then n - v - s else if c = 1 then n - s else n), .int .i64 0]) ∧ w' = w := by
  have x0 : ∀ w, (Instr.index 113 (.agg #[.int .i64 n, .int .i64 s, .int .i64 v]) (.int .i64 0)).run Tryd.prog w = .ok (.int .i64 n) w := fun _ => by kernel_rfl
  have x1 : ∀ w, (Instr.index 113 (.agg #[.int .i64 n, .int .i64 s, .int .i64 v]) (.int .i64 1)).run Tryd.prog w = .ok (.int .i64 s) w := fun _ => by kernel_rfl
  have x2 : ∀ w, (Instr.index 113 (.agg #[.int .i64 n, .int .i64 s, .int .i64 v]) (.int .i64 2)).run Tryd.prog w = .ok (.int .i64 v) w := fun _ => by kernel_rfl
  obtain ⟨hc1, hc2⟩ := hc; obtain ⟨hn1, hn2⟩ := hn; obtain ⟨hs1, hs2⟩ := hs; obtain ⟨hv1, hv2⟩ := hv
  have hcc : c = 0 ∨ c = 1 ∨ c = 2 := by omega
  go_enter Tryd.func32, Tryd.ntmps32
  go_wp2_with fail
  go_loop [18] (fun i => i = .int .i64 0 ∨ i = .int .i64 1 ∨ i = .int .i64 2 ∨ i = .int .i64 3) (fun i => 3 - (intOf i).toNat)
  case atStart => exact Or.inl rfl
  case round =>
    rcases hrel with rfl | rfl | rfl | rfl
    · go_wp2_with fail
      go_round
      case rel => exact Or.inr (Or.inl rfl)
      case measure => simp [intOf]
    · go_wp2_with fail
      go_round
      case rel => exact Or.inr (Or.inr (Or.inl rfl))
      case measure => simp [intOf]
    · go_wp2_with fail
      go_round
      case rel => exact Or.inr (Or.inr (Or.inr rfl))
      case measure => simp [intOf]
    · clear x0 x1 x2
      rcases hcc with rfl | rfl | rfl
      all_goals
        go_wp2_with fail
        go_ret2
        exact ⟨rfl, rfl⟩
set_option maxHeartbeats 1600000 in
theorem begins4_any (w : World) : Calls Tryd.prog 29 #[] w fun e w' => e = .returned (.bool true) ∧ Below w.heap.size w w' := by
  have c1 := fun w => instant_ok 100 0 10 1 w (by decide) (by decide) (by decide) (by decide)
  simp only [show (100 : Int) - 1 - 10 = 89 by decide, if_pos] at c1
  have c2 := fun w => offset_at (w := w) (o := 3600) (x := ⟨#[43, 48, 49]⟩) (n := 0) (by decide +kernel) (by decide +kernel)
  go_enter Tryd.func29, Tryd.ntmps29
  go_wp2_with fail
  refine (c1 _).mono ?_; rintro e w1 ⟨rfl, rfl⟩; clear c1
  go_wp2_with fail
  refine (c2 _).mono ?_; rintro e w2 ⟨rfl, hb2⟩; clear c2
  go_wp2_with fail
  go_ret
  exact ⟨rfl, hb2⟩
end Go.Proofs.YtginidedeefcdaaDoor.Ab
