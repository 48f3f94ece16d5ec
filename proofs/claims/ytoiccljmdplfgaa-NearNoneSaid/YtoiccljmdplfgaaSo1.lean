/-
  THE STABLE SORT OF PLACES: comparing, exchanging, inserting: walked.
-/
import Derived.Test.YtoiccljmdplfgaaNr2
import Derived.Test.YtoiccljmdplfgaaSoM
import Derived.BigQuiet
import Derived.Deep.QuietTactic
import Derived.BigRegion
namespace Go.Proofs.Ytoiccljmdplfgaa.So
open Go.ChangeShapes Go.WideShapes Go.ChangeAt Go.RowKit
open Go.Proofs.Ytoiccljmdplfgaa
open Go.Proofs.Ytoiccljmdplfgaa.Wd
open Go.Proofs.Ytoiccljmdplfgaa.Nr (Only cmpF)
set_option linter.unusedVariables false
set_option linter.unusedSimpArgs false
def cmpV (a b : Int) : Int := if a < b then -1 else if b < a then 1 else 0
set_option maxRecDepth 20000 in
theorem nan_any (x : Int) (w : World) : Calls Try.prog 93 #[.int .i64 x] w fun e w' => e = .returned (.bool false) ∧ w = w' := by
  have h1 : (x != x) = false := by simp
  go_enter Try.func93, Try.ntmps93
  go_wp2_with fail
  go_ret
  exact ⟨rfl, rfl⟩
set_option maxRecDepth 20000 in
theorem compare_any (x y : Int) (w : World) : Calls Try.prog 76 #[.int .i64 x, .int .i64 y] w fun e w' => e = .returned (.int .i64 (cmpV x y)) ∧ w = w' := by
  have hn := fun x => nan_any x w
  unfold cmpV
  by_cases h1 : x < y
  · rw [if_pos h1]
    go_enter Try.func76, Try.ntmps76
    go_wp2_with (go_at_call 93; refine (hn _).mono ?_; rintro e w' ⟨rfl, rfl⟩)
    go_ret
    exact ⟨rfl, rfl⟩
  · rw [if_neg h1]
    by_cases h2 : y < x
    · rw [if_pos h2]
      go_enter Try.func76, Try.ntmps76
      go_wp2_with (go_at_call 93; refine (hn _).mono ?_; rintro e w' ⟨rfl, rfl⟩)
      go_ret
      exact ⟨rfl, rfl⟩
    · rw [if_neg h2]
      go_enter Try.func76, Try.ntmps76
      go_wp2_with (go_at_call 93; refine (hn _).mono ?_; rintro e w' ⟨rfl, rfl⟩)
      go_ret
      exact ⟨rfl, rfl⟩
/-- the places, and how far each is -/
structure En (gO gT gF n : Nat) (far : Nat → Int) (a : Fn_) (W : World) : Prop where
  o : W.rowIs gO 3 n (fun j => .int .i64 (a j : Nat))
  t : Blk W gT 136 #[.slice (some ⟨gF, 0, none⟩) n n]
  f : W.rowIs gF 2 n (fun j => .int .i64 (far j))
  b : ∀ j, j < n → a j < n
section
variable {gO gT gF n : Nat} {far : Nat → Int} {a : Fn_} {W : World}
theorem En.drewN (h : En gO gT gF n far a W) (q : Nat) : En gO gT gF n far a (W.drewN q) := ⟨h.o, h.t, h.f, h.b⟩
theorem En.drew (h : En gO gT gF n far a W) : En gO gT gF n far a W.drew := ⟨h.o, h.t, h.f, h.b⟩
theorem only_drewN {g : Nat} {a b : World} (h : Only g a b) (q : Nat) : Only g a (b.drewN q) := ⟨h.os, h.tape, h.output, h.size, h.block⟩
theorem En.swp_ (h : En gO gT gF n far a W) (h1 : gO ≠ gT) (h2 : gO ≠ gF) {i j : Nat} (hi : i < n) (hj : j < n) (hij : i ≠ j) :
    En gO gT gF n far (swp a i j) ((W.setCell ⟨gO, i, none⟩ (.int .i64 (a j : Nat))).setCell ⟨gO, j, none⟩ (.int .i64 (a i : Nat))) := by
  refine ⟨?_, (h.t.far (p := ⟨gO, i, none⟩) (Ne.symm h1) _).far (p := ⟨gO, j, none⟩) (Ne.symm h1) _, (h.f.setOther (a := ⟨gO, i, none⟩) (Ne.symm h2) _).setOther (a := ⟨gO, j, none⟩) (Ne.symm h2) _, fun x hx => ?_⟩
  · have := (h.o.set i (.int .i64 (a j : Nat))).set j (.int .i64 (a i : Nat))
    refine this.congr fun x hx => ?_
    unfold swp
    by_cases e1 : x = j
    · subst e1; rw [if_pos rfl]
      by_cases e2 : x = i
      · exact absurd e2.symm hij
      · rw [if_neg e2, if_pos rfl]
    · rw [if_neg e1]
      by_cases e2 : x = i
      · rw [if_pos e2, if_pos e2]
      · rw [if_neg e2, if_neg e2, if_neg e1]
  · unfold swp
    split
    · exact h.b j hj
    · split
      · exact h.b i hi
      · exact h.b x hx
end
set_option maxRecDepth 100000 in
set_option maxHeartbeats 1600000 in
theorem cmp_any (gO gT gF n : Nat) (far : Nat → Int) (a : Fn_) (W : World) (h : En gO gT gF n far a W) (hn : n ≤ 4096) (x y : Nat) (hx : x < n) (hy : y < n) :
    Calls Try.prog 75 #[.int .i64 (x : Int), .int .i64 (y : Int), .pointer (some ⟨gT, 0, none⟩)] W fun e w' => e = .returned (.int .i64 (cmpV (far x) (far y))) ∧ ∃ m, w' = W.drewN m := by
  have c1 : W.cell? ⟨gT, 0, none⟩ = some (.slice (some ⟨gF, 0, none⟩) n n) := h.t.cell 0
  have c2 : W.cell? ⟨gF, x, none⟩ = some (.int .i64 (far x)) := h.f.cell hx
  have c3 : W.cell? ⟨gF, y, none⟩ = some (.int .i64 (far y)) := h.f.cell hy
  have hx' : (x : Int) < (n : Int) := by omega
  have hy' : (y : Int) < (n : Int) := by omega
  have hc := fun w => compare_any (far x) (far y) w
  generalize far x = fx at *
  generalize far y = fy at *
  go_enter Try.func75, Try.ntmps75
  go_upto_region 1 with fail
  go_quiet ((go_at_call 76; exact Calls.quiet_of_same ((hc _).mono fun _ _ ⟨h1, h2⟩ => ⟨h1, h2.symm⟩)))
  go_wp2_with fail
  go_ret
  exact ⟨rfl, _, rfl⟩
end Go.Proofs.Ytoiccljmdplfgaa.So
