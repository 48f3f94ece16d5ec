/-
  SPANS COMPARED: solsticeref18.Same of two slices that read the same spans.
-/
import Derived.Test.YtgdgkgeoigljcaaDoorSpM
import Derived.Test.YtgdgkgeoigljcaaDoorTbA
import Derived.Deep.RegionHeld3
import Derived.Deep.QuietTactic
import Derived.BigQuiet
namespace Go.Proofs.YtgdgkgeoigljcaaDoor.Ft
open Go.ChangeShapes Go.WideShapes Go.ChangeAt Go.RowKit
open Go.Proofs.YtgdgkgeoigljcaaDoor
open Go.Proofs.YtgdgkgeoigljcaaDoor.Wd
open Go.Proofs.YtgdgkgeoigljcaaDoor.Rec
open Go.Proofs.YtgdgkgeoigljcaaDoor.Yr
open Go.Proofs.YtgdgkgeoigljcaaDoor.Tb
open Go.Proofs.YtgdgkgeoigljcaaDoor.Civ (Tab Inv)
set_option linter.unusedVariables false
abbrev sn : Sp := ⟨0, 0, false⟩
abbrev at_ (l : List Sp) (k : Nat) : Sp := l.getD k sn
theorem at_eq {l : List Sp} {k : Nat} (h : k < l.length) : l[k] = at_ l k := by
  show l[k] = l.getD k sn
  rw [List.getD_eq_getElem?_getD, List.getElem?_eq_getElem h]; rfl
/-- a slice that reads as a list of spans -/
def Spans (w : World) (B : Nat) (A : Option Addr) (n : Nat) (l : List Sp) : Prop := l.length = n ∧ Reads w B 3 A n (flatS l)
theorem Spans.below {w w' : World} {B n : Nat} {A : Option Addr} {l : List Sp} (h : Spans w B A n l) (hb : Below B w w') : Spans w' B A n l := ⟨h.1, h.2.below hb⟩
theorem Spans.more {w : World} {B B' n : Nat} {A : Option Addr} {l : List Sp} (h : Spans w B A n l) (hb : B ≤ B') : Spans w B' A n l := ⟨h.1, h.2.more hb⟩
theorem Spans.row {w : World} {B n : Nat} {A : Option Addr} {l : List Sp} (h : Spans w B A n l) {k : Nat} (hk : k < n) : ∃ ad, A = some ad ∧ Row w B (ad.add (k * 3)) (at_ l k).A := by
  obtain ⟨hl, hr⟩ := h
  have hkl : k < l.length := by omega
  obtain ⟨h1, h2⟩ := hr
  obtain ⟨ad, rfl, h3, h4⟩ := h2 (by omega)
  refine ⟨ad, rfl, ?_, fun j v hv => ?_⟩
  · have : (ad.add (k * 3)).block = ad.block := Wd.block_of_add ..
    rw [this]; exact h3
  · have hj : j < 3 := by
      rcases Nat.lt_or_ge j 3 with q | q
      · exact q
      · have : (at_ l k).A.size = 3 := rfl
        rw [Array.getElem?_eq_none (by omega)] at hv; cases hv
    have := h4 (3 * k + j) v (by rw [flatS_at l k j hkl hj, at_eq hkl]; exact hv)
    rw [show 3 * k + j = k * 3 + j by omega] at this
    rw [← this]
    rw [add_of_add]
theorem bdN {B : Nat} {w w' : World} (h : Below B w w') (n : Nat) : Below B w (w'.drewN n) := h.trans (by have := h.size; exact ⟨rfl, rfl, rfl, Nat.le_refl _, fun _ _ => rfl⟩)
theorem add_zero (p : Addr) : p.add 0 = p := by
  obtain ⟨b, o, k⟩ := p
  unfold Addr.add
  split <;> simp_all
/-- the cells of a span behind a pointer -/
structure SpAt (w : World) (p : Addr) (s : Sp) : Prop where
  f : w.cell? p = some (.int .i64 s.f)
  o : w.cell? (p.add 1) = some (.int .i64 s.o)
  d : w.cell? (p.add 2) = some (.bool s.d)
  o' : w.cell? ⟨p.block, p.off + 1, none⟩ = some (.int .i64 s.o)
  d' : w.cell? ⟨p.block, p.off + 2, none⟩ = some (.bool s.d)
theorem SpAt.of {w : World} {B : Nat} {p : Addr} {s : Sp} (h : Row w B p s.A) : SpAt w p s := ⟨by have := h.2 0 _ rfl; rwa [add_zero] at this, h.2 1 _ rfl, h.2 2 _ rfl, h.2 1 _ rfl, h.2 2 _ rfl⟩
set_option maxRecDepth 20000 in
set_option maxHeartbeats 3200000 in
theorem same_eq (A1 A2 : Option Addr) (n c1 c2 : Nat) (l : List Sp) (w : World) (hs1 : Spans w w.heap.size A1 n l) (hs2 : Spans w w.heap.size A2 n l) (hm : n ≤ maxLen) :
    Calls Tryd.prog 14 #[.slice A1 n c1, .slice A2 n c2] w fun e w' => e = .returned (.bool true) ∧ Below w.heap.size w w' := by
  unfold maxLen at hm
  go_enter Tryd.func14, Tryd.ntmps14
  go_wp2_with fail
  go_loopw [13] (fun i wr => ∃ k : Nat, i = .int .i64 k ∧ k ≤ n ∧ Below w.heap.size w wr) (fun i _ => n - (intOf i).toNat)
  case atStart => exact ⟨0, rfl, Nat.zero_le _, Below.refl _ _⟩
  case round =>
    obtain ⟨k, rfl, hk, hb⟩ := hrel
    by_cases hlt : k < n
    · have hlt' : (k : Int) < (n : Int) := by omega
      obtain ⟨ad, rfl, r1⟩ := (hs1.below hb).row hlt
      obtain ⟨ae, rfl, r2⟩ := (hs2.below hb).row hlt
      obtain ⟨⟨f, o, d⟩, eA⟩ : ∃ a, at_ l k = a := ⟨_, rfl⟩
      rw [eA] at r1 r2
      clear eA
      obtain ⟨q10, q11, q12, q13, q14⟩ := SpAt.of r1
      obtain ⟨q20, q21, q22, q23, q24⟩ := SpAt.of r2
      simp only at q10 q11 q12 q13 q14 q20 q21 q22 q23 q24
      clear r1 r2
      go_wp2_with fail
      go_quiet ((go_at_call 0))
      clear q10 q11 q12 q13 q14 q20 q21 q22 q23 q24
      go_wp2_with fail
      go_roundw
      case rel => exact ⟨k + 1, by go_num, by omega, bdN hb _⟩
      case measure => simp [intOf]; omega
    · have hlt' : ¬ (k : Int) < (n : Int) := by omega
      go_wp2_with fail
      go_ret
      exact ⟨rfl, hb⟩
end Go.Proofs.YtgdgkgeoigljcaaDoor.Ft
