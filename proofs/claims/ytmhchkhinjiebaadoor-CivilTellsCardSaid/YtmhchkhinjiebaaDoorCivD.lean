/-
  THE CALENDAR's STATEMENTS: 'lives', walked.
-/
import Derived.Test.YtmhchkhinjiebaaDoorCivC
namespace Go.Proofs.YtmhchkhinjiebaaDoor.Civ
open Go.ChangeShapes Go.WideShapes Go.ChangeAt Go.RowKit
set_option linter.unusedVariables false
/-- what a walk carries: the table lies there; nothing that was there has changed -/
def Inv (w0 w : World) : Prop := Tab w ∧ Below w0.heap.size w0 w
theorem Inv.start {w : World} (h : Tab w) : Inv w w := ⟨h, Below.refl _ _⟩
theorem Inv.call {w0 w w1 : World} (h : Inv w0 w) (hb : Below w.heap.size w w1) : Inv w0 w1 := ⟨h.1.below h.1.1 hb, h.2.trans (hb.mono h.2.size)⟩
theorem Inv.alloc {w0 w : World} (h : Inv w0 w) (o : Obj) : Inv w0 (w.alloc o) := h.call ((Below.refl _ _).alloc (Nat.le_refl _) _)
theorem Inv.drew {w0 w : World} (h : Inv w0 w) : Inv w0 w.drew := h.call ((Below.refl _ _).drew)
theorem Inv.same {w0 w w1 : World} (h : Inv w0 w) (hw : w = w1) : Inv w0 w1 := hw ▸ h

set_option maxHeartbeats 1000000 in
theorem lives_any (w : World) (hT : Tab w) :
    Calls Tryd.prog 14 #[] w fun e w' => e = .returned (.bool true) ∧ Below w.heap.size w w' := by
  have i0 := Inv.start hT
  have e1 : Cal.numV 2000 3 1 = 11017 := by decide
  have e2 : Cal.chkE 2000 3 1 = 0 := by decide
  have e3 : Cal.ofYV (-1) = 1969 := by decide
  have e4 : Cal.ofMV (-1) = 12 := by decide
  have e5 : Cal.ofDV (-1) = 31 := by decide
  have e6 : Cal.ofE (-1) = 0 := by decide
  have e7 : Cal.chkE 1900 2 29 = 1 := by decide
  have e8 : Cal.ofE 2932897 = 1 := by decide
  have e9 : Cal.lenV 2024 2 = 29 := by decide
  have e10 : Cal.lenE 2024 2 = 0 := by decide
  have e11 : Cal.firV 10000 = 2932897 := by decide
  have e12 : Cal.firE 10000 = 0 := by decide
  have e13 : Cal.firE 0 = 1 := by decide
  have e14 : Cal.wday 0 = 4 := by decide
  have e15 : Cal.wday (-5) = 6 := by decide
  have e16 : Cal.leap 2000 = true := by decide
  have e17 : Cal.leap 1900 = false := by decide
  have e18 : Cal.chkE 1969 12 31 = 0 := by decide
  go_enter Tryd.func14, Tryd.ntmps14
  go_wp2_with fail
  refine (days_any _ _ _ _ i0.1).mono ?_; rintro e w1 ⟨rfl, hb1⟩
  have i1 := i0.call hb1; clear hb1
  go_wp2_with fail
  refine (of_any _ _).mono ?_; rintro e w2 ⟨rfl, hb2⟩
  have i2 := i1.call hb2; clear hb2
  go_wp2_with fail
  refine (days_any _ _ _ _ (i2.alloc _).1).mono ?_; rintro e w3 ⟨rfl, hb3⟩
  obtain ⟨hc3, hf3⟩ := bcell hb3
  have i3 := (i2.alloc _).call hb3
  go_wp2_with fail
  refine (of_any _ _).mono ?_; rintro e w4 ⟨rfl, hb4⟩
  obtain ⟨hc4, hf4⟩ := bcell hb4
  have i4 := i3.call hb4
  go_wp2_with fail
  refine (len_any _ _ _ (i4.alloc _).1).mono ?_; rintro e w5 ⟨rfl, rfl⟩
  go_wp2_with fail
  refine (fir_any _ _).mono ?_; rintro e w5 ⟨rfl, rfl⟩
  go_wp2_with fail
  refine (fir_any _ _).mono ?_; rintro e w5 ⟨rfl, rfl⟩
  have hz2 : w2.heap.size < w3.heap.size := by have := hb3.size; simp at this; omega
  have hz3 : w2.heap.size < w4.heap.size := by have := hb4.size; omega
  go_wp2_with fail
  refine (wd_any _ _).mono ?_; rintro e w5 ⟨rfl, rfl⟩
  go_wp2_with fail
  refine (wd_any _ _).mono ?_; rintro e w5 ⟨rfl, rfl⟩
  go_wp2_with fail
  refine (leap_any _ _).mono ?_; rintro e w5 ⟨rfl, rfl⟩
  go_wp2_with fail
  refine (leap_any _ _).mono ?_; rintro e w5 ⟨rfl, rfl⟩
  go_wp2_with fail
  refine (chk_any _ _ _ _ (i4.alloc _).1).mono ?_; rintro e w5 ⟨rfl, hb5⟩
  go_wp2_with fail
  go_ret
  exact ⟨rfl, ((i4.alloc _).call hb5).2⟩
end Go.Proofs.YtmhchkhinjiebaaDoor.Civ
