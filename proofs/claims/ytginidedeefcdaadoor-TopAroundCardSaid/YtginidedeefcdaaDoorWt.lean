/-
  NAMES OF DAYS OF THE WEEK, WALKED: how each is written.
-/
import Derived.Test.YtginidedeefcdaaDoorWk
namespace Go.Proofs.YtginidedeefcdaaDoor.Wk
open Go.ChangeShapes Go.WideShapes Go.ChangeAt Go.RowKit
open Go.Proofs.YtginidedeefcdaaDoor
open Go.Proofs.YtginidedeefcdaaDoor.Wd
set_option linter.unusedVariables false
def wtV (d : Int) : ByteArray :=
  if d = 0 then ⟨#[83, 117, 110]⟩
  else if d = 1 then ⟨#[77, 111, 110]⟩
  else if d = 2 then ⟨#[84, 117, 101]⟩
  else if d = 3 then ⟨#[87, 101, 100]⟩
  else if d = 4 then ⟨#[84, 104, 117]⟩
  else if d = 5 then ⟨#[70, 114, 105]⟩
  else if d = 6 then ⟨#[83, 97, 116]⟩
  else ⟨#[]⟩
set_option maxRecDepth 20000 in
theorem text_0 (w : World) :
    Calls Tryd.prog 38 #[.int .i64 0] w fun e w' => e = .returned (.string ⟨#[83, 117, 110]⟩) ∧ Below w.heap.size w w' := by
  obtain ⟨ad, hA, hc⟩ := str_at (names_read w) (show 0 < 7 by decide) (show 0 < dayNs.length by decide)
  injection hA with hA; subst hA
  have hb : Below w.heap.size w (w.alloc (.cells (dayNs.map Value.string).toArray 9)) := (Below.refl _ _).alloc (Nat.le_refl _) _
  have hc' : (w.alloc (.cells (dayNs.map Value.string).toArray 9)).cell? ⟨w.heap.size, 0, none⟩ = some (.string ⟨#[83, 117, 110, 100, 97, 121]⟩) := hc
  clear hc
  generalize hW : w.alloc (.cells (dayNs.map Value.string).toArray 9) = W at *
  have HW := Lib.hid hW; clear hW
  go_enter Tryd.func38, Tryd.ntmps38
  go_wp2_with (go_at_call 73; refine (days_names _).mono ?_; rintro e w1 ⟨rfl, hw1⟩; rw [HW.out] at hw1; subst hw1)
  go_ret
  exact ⟨rfl, hb⟩
set_option maxRecDepth 20000 in
theorem text_1 (w : World) :
    Calls Tryd.prog 38 #[.int .i64 1] w fun e w' => e = .returned (.string ⟨#[77, 111, 110]⟩) ∧ Below w.heap.size w w' := by
  obtain ⟨ad, hA, hc⟩ := str_at (names_read w) (show 1 < 7 by decide) (show 1 < dayNs.length by decide)
  injection hA with hA; subst hA
  have hb : Below w.heap.size w (w.alloc (.cells (dayNs.map Value.string).toArray 9)) := (Below.refl _ _).alloc (Nat.le_refl _) _
  have hc' : (w.alloc (.cells (dayNs.map Value.string).toArray 9)).cell? ⟨w.heap.size, 1, none⟩ = some (.string ⟨#[77, 111, 110, 100, 97, 121]⟩) := hc
  clear hc
  generalize hW : w.alloc (.cells (dayNs.map Value.string).toArray 9) = W at *
  have HW := Lib.hid hW; clear hW
  go_enter Tryd.func38, Tryd.ntmps38
  go_wp2_with (go_at_call 73; refine (days_names _).mono ?_; rintro e w1 ⟨rfl, hw1⟩; rw [HW.out] at hw1; subst hw1)
  go_ret
  exact ⟨rfl, hb⟩
set_option maxRecDepth 20000 in
theorem text_2 (w : World) :
    Calls Tryd.prog 38 #[.int .i64 2] w fun e w' => e = .returned (.string ⟨#[84, 117, 101]⟩) ∧ Below w.heap.size w w' := by
  obtain ⟨ad, hA, hc⟩ := str_at (names_read w) (show 2 < 7 by decide) (show 2 < dayNs.length by decide)
  injection hA with hA; subst hA
  have hb : Below w.heap.size w (w.alloc (.cells (dayNs.map Value.string).toArray 9)) := (Below.refl _ _).alloc (Nat.le_refl _) _
  have hc' : (w.alloc (.cells (dayNs.map Value.string).toArray 9)).cell? ⟨w.heap.size, 2, none⟩ = some (.string ⟨#[84, 117, 101, 115, 100, 97, 121]⟩) := hc
  clear hc
  generalize hW : w.alloc (.cells (dayNs.map Value.string).toArray 9) = W at *
  have HW := Lib.hid hW; clear hW
  go_enter Tryd.func38, Tryd.ntmps38
  go_wp2_with (go_at_call 73; refine (days_names _).mono ?_; rintro e w1 ⟨rfl, hw1⟩; rw [HW.out] at hw1; subst hw1)
  go_ret
  exact ⟨rfl, hb⟩
set_option maxRecDepth 20000 in
theorem text_3 (w : World) :
    Calls Tryd.prog 38 #[.int .i64 3] w fun e w' => e = .returned (.string ⟨#[87, 101, 100]⟩) ∧ Below w.heap.size w w' := by
  obtain ⟨ad, hA, hc⟩ := str_at (names_read w) (show 3 < 7 by decide) (show 3 < dayNs.length by decide)
  injection hA with hA; subst hA
  have hb : Below w.heap.size w (w.alloc (.cells (dayNs.map Value.string).toArray 9)) := (Below.refl _ _).alloc (Nat.le_refl _) _
  have hc' : (w.alloc (.cells (dayNs.map Value.string).toArray 9)).cell? ⟨w.heap.size, 3, none⟩ = some (.string ⟨#[87, 101, 100, 110, 101, 115, 100, 97, 121]⟩) := hc
  clear hc
  generalize hW : w.alloc (.cells (dayNs.map Value.string).toArray 9) = W at *
  have HW := Lib.hid hW; clear hW
  go_enter Tryd.func38, Tryd.ntmps38
  go_wp2_with (go_at_call 73; refine (days_names _).mono ?_; rintro e w1 ⟨rfl, hw1⟩; rw [HW.out] at hw1; subst hw1)
  go_ret
  exact ⟨rfl, hb⟩
set_option maxRecDepth 20000 in
theorem text_4 (w : World) :
    Calls Tryd.prog 38 #[.int .i64 4] w fun e w' => e = .returned (.string ⟨#[84, 104, 117]⟩) ∧ Below w.heap.size w w' := by
  obtain ⟨ad, hA, hc⟩ := str_at (names_read w) (show 4 < 7 by decide) (show 4 < dayNs.length by decide)
  injection hA with hA; subst hA
  have hb : Below w.heap.size w (w.alloc (.cells (dayNs.map Value.string).toArray 9)) := (Below.refl _ _).alloc (Nat.le_refl _) _
  have hc' : (w.alloc (.cells (dayNs.map Value.string).toArray 9)).cell? ⟨w.heap.size, 4, none⟩ = some (.string ⟨#[84, 104, 117, 114, 115, 100, 97, 121]⟩) := hc
  clear hc
  generalize hW : w.alloc (.cells (dayNs.map Value.string).toArray 9) = W at *
  have HW := Lib.hid hW; clear hW
  go_enter Tryd.func38, Tryd.ntmps38
  go_wp2_with (go_at_call 73; refine (days_names _).mono ?_; rintro e w1 ⟨rfl, hw1⟩; rw [HW.out] at hw1; subst hw1)
  go_ret
  exact ⟨rfl, hb⟩
set_option maxRecDepth 20000 in
theorem text_5 (w : World) :
    Calls Tryd.prog 38 #[.int .i64 5] w fun e w' => e = .returned (.string ⟨#[70, 114, 105]⟩) ∧ Below w.heap.size w w' := by
  obtain ⟨ad, hA, hc⟩ := str_at (names_read w) (show 5 < 7 by decide) (show 5 < dayNs.length by decide)
  injection hA with hA; subst hA
  have hb : Below w.heap.size w (w.alloc (.cells (dayNs.map Value.string).toArray 9)) := (Below.refl _ _).alloc (Nat.le_refl _) _
  have hc' : (w.alloc (.cells (dayNs.map Value.string).toArray 9)).cell? ⟨w.heap.size, 5, none⟩ = some (.string ⟨#[70, 114, 105, 100, 97, 121]⟩) := hc
  clear hc
  generalize hW : w.alloc (.cells (dayNs.map Value.string).toArray 9) = W at *
  have HW := Lib.hid hW; clear hW
  go_enter Tryd.func38, Tryd.ntmps38
  go_wp2_with (go_at_call 73; refine (days_names _).mono ?_; rintro e w1 ⟨rfl, hw1⟩; rw [HW.out] at hw1; subst hw1)
  go_ret
  exact ⟨rfl, hb⟩
set_option maxRecDepth 20000 in
theorem text_6 (w : World) :
    Calls Tryd.prog 38 #[.int .i64 6] w fun e w' => e = .returned (.string ⟨#[83, 97, 116]⟩) ∧ Below w.heap.size w w' := by
  obtain ⟨ad, hA, hc⟩ := str_at (names_read w) (show 6 < 7 by decide) (show 6 < dayNs.length by decide)
  injection hA with hA; subst hA
  have hb : Below w.heap.size w (w.alloc (.cells (dayNs.map Value.string).toArray 9)) := (Below.refl _ _).alloc (Nat.le_refl _) _
  have hc' : (w.alloc (.cells (dayNs.map Value.string).toArray 9)).cell? ⟨w.heap.size, 6, none⟩ = some (.string ⟨#[83, 97, 116, 117, 114, 100, 97, 121]⟩) := hc
  clear hc
  generalize hW : w.alloc (.cells (dayNs.map Value.string).toArray 9) = W at *
  have HW := Lib.hid hW; clear hW
  go_enter Tryd.func38, Tryd.ntmps38
  go_wp2_with (go_at_call 73; refine (days_names _).mono ?_; rintro e w1 ⟨rfl, hw1⟩; rw [HW.out] at hw1; subst hw1)
  go_ret
  exact ⟨rfl, hb⟩
theorem text_any (d : Int) (w : World) :
    Calls Tryd.prog 38 #[.int .i64 d] w fun e w' => e = .returned (.string (wtV d)) ∧ Below w.heap.size w w' := by
  have hd : d < 0 ∨ (¬ d < 0 ∧ 6 < d) ∨ d = 0 ∨ d = 1 ∨ d = 2 ∨ d = 3 ∨ d = 4 ∨ d = 5 ∨ d = 6 := by omega
  rcases hd with h1 | ⟨h1, h2⟩ | rfl | rfl | rfl | rfl | rfl | rfl | rfl
  · have e : wtV d = ⟨#[]⟩ := by unfold wtV; simp only [if_neg (show ¬ d = 0 by omega), if_neg (show ¬ d = 1 by omega), if_neg (show ¬ d = 2 by omega), if_neg (show ¬ d = 3 by omega), if_neg (show ¬ d = 4 by omega), if_neg (show ¬ d = 5 by omega), if_neg (show ¬ d = 6 by omega)]
    rw [e]
    go_enter Tryd.func38, Tryd.ntmps38
    go_wp2
    go_ret
    exact ⟨rfl, Below.refl _ _⟩
  · have e : wtV d = ⟨#[]⟩ := by unfold wtV; simp only [if_neg (show ¬ d = 0 by omega), if_neg (show ¬ d = 1 by omega), if_neg (show ¬ d = 2 by omega), if_neg (show ¬ d = 3 by omega), if_neg (show ¬ d = 4 by omega), if_neg (show ¬ d = 5 by omega), if_neg (show ¬ d = 6 by omega)]
    rw [e]
    go_enter Tryd.func38, Tryd.ntmps38
    go_wp2
    go_ret
    exact ⟨rfl, Below.refl _ _⟩
  · exact text_0 w
  · exact text_1 w
  · exact text_2 w
  · exact text_3 w
  · exact text_4 w
  · exact text_5 w
  · exact text_6 w
end Go.Proofs.YtginidedeefcdaaDoor.Wk
