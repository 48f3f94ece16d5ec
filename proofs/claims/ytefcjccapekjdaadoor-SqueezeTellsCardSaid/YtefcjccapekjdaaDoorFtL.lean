/-
  SPANS LOOKED AT: look.alike, look.Check; a slice of spans read.
-/
import Derived.Test.YtefcjccapekjdaaDoorFtM
import Derived.Test.YtefcjccapekjdaaDoorTbA
import Derived.Deep.RegionHeld3
import Derived.Deep.QuietTactic
import Derived.BigQuiet
namespace Go.Proofs.YtefcjccapekjdaaDoor.Ft
open Go.ChangeShapes Go.WideShapes Go.ChangeAt Go.RowKit
open Go.Proofs.YtefcjccapekjdaaDoor
open Go.Proofs.YtefcjccapekjdaaDoor.Wd
open Go.Proofs.YtefcjccapekjdaaDoor.Rec
open Go.Proofs.YtefcjccapekjdaaDoor.Yr
open Go.Proofs.YtefcjccapekjdaaDoor.Tb
open Go.Proofs.YtefcjccapekjdaaDoor.Clk (yrV yrE)
open Go.Proofs.YtefcjccapekjdaaDoor.Civ (Tab Inv)
set_option linter.unusedVariables false
/-- a slice that reads as a list of spans -/
def Spans (w : World) (B : Nat) (A : Option Addr) (n : Nat) (l : List Sp) : Prop := l.length = n ∧ Reads w B 3 A n (flatS l)
theorem Spans.below {w w' : World} {B n : Nat} {A : Option Addr} {l : List Sp} (h : Spans w B A n l) (hb : Below B w w') : Spans w' B A n l := ⟨h.1, h.2.below hb⟩
theorem Spans.more {w : World} {B B' n : Nat} {A : Option Addr} {l : List Sp} (h : Spans w B A n l) (hb : B ≤ B') : Spans w B' A n l := ⟨h.1, h.2.more hb⟩
theorem Spans.row {w : World} {B n : Nat} {A : Option Addr} {l : List Sp} (h : Spans w B A n l) {k : Nat} (hk : k < n) : ∃ ad, A = some ad ∧ Row w B (ad.add (k * 3)) (at_ l k).A := by
  obtain ⟨hl, hr⟩ := h
  have hkl : k < l.length := by omega
  obtain ⟨h1, h2⟩ := hr
  obtain ⟨ad, rfl, h3, h4⟩ := h2 (by omega)
  refine ⟨ad, rfl, ?_, fun j v hv => ?_⟩
  · have : (ad.add (k * 3)).block = ad.block := Wd.block_of_add ..
    rw [this]; exact h3
  · have hj : j < 3 := by
      rcases Nat.lt_or_ge j 3 with q | q
      · exact q
      · have : (at_ l k).A.size = 3 := rfl
        rw [Array.getElem?_eq_none (by omega)] at hv; cases hv
    have := h4 (3 * k + j) v (by rw [flatS_at l k j hkl hj, at_eq hkl]; exact hv)
    rw [show 3 * k + j = k * 3 + j by omega] at this
    rw [← this]
    rw [add_of_add]
theorem bdN {B : Nat} {w w' : World} (h : Below B w w') (n : Nat) : Below B w (w'.drewN n) := h.trans (by have := h.size; exact ⟨rfl, rfl, rfl, Nat.le_refl _, fun _ _ => rfl⟩)
theorem add_zero (p : Addr) : p.add 0 = p := by
  obtain ⟨b, o, k⟩ := p
  unfold Addr.add
  split <;> simp_all
/-- the cells of a span behind a pointer -/
structure SpAt (w : World) (p : Addr) (s : Sp) : Prop where
  f : w.cell? p = some (.int .i64 s.f)
  o : w.cell? (p.add 1) = some (.int .i64 s.o)
  d : w.cell? (p.add 2) = some (.bool s.d)
  o' : w.cell? ⟨p.block, p.off + 1, none⟩ = some (.int .i64 s.o)
  d' : w.cell? ⟨p.block, p.off + 2, none⟩ = some (.bool s.d)
theorem SpAt.of {w : World} {B : Nat} {p : Addr} {s : Sp} (h : Row w B p s.A) : SpAt w p s := ⟨by have := h.2 0 _ rfl; rwa [add_zero] at this, h.2 1 _ rfl, h.2 2 _ rfl, h.2 1 _ rfl, h.2 2 _ rfl⟩
set_option maxHeartbeats 1600000 in
theorem alike_any (a b : Sp) (w : World) :
    Calls Tryd.prog 135 #[a.V, b.V] w fun e w' => e = .returned (.bool (alk a b)) ∧ Below w.heap.size w w' := by
  obtain ⟨af, ao, ad⟩ := a
  obtain ⟨bf, bo, bd⟩ := b
  have hb : Below w.heap.size w ((w.alloc (.cells #[.int .i64 af, .int .i64 ao, .bool ad] 67)).alloc (.cells #[.int .i64 bf, .int .i64 bo, .bool bd] 67)) := ((Below.refl _ _).alloc (Nat.le_refl _) _).alloc (by simp) _
  cases h1 : ao == bo
  · have HV := Lib.hid (show alk ⟨af, ao, ad⟩ ⟨bf, bo, bd⟩ = false by unfold alk; simp only [h1]; rfl)
    go_enter Tryd.func135, Tryd.ntmps135
    go_wp2
    go_ret
    exact ⟨by rw [HV.out]; rfl, hb⟩
  · have HV := Lib.hid (show alk ⟨af, ao, ad⟩ ⟨bf, bo, bd⟩ = (ad == bd) by unfold alk; simp only [h1]; simp)
    go_enter Tryd.func135, Tryd.ntmps135
    go_wp2
    go_ret
    exact ⟨by rw [HV.out]; rfl, hb⟩
set_option maxRecDepth 20000 in
set_option maxHeartbeats 1600000 in
theorem check_any (A : Option Addr) (n c : Nat) (l : List Sp) (w : World) (hs : Spans w w.heap.size A n l) (hm : n ≤ maxLen) :
    Calls Tryd.prog 105 #[.slice A n c] w fun e w' => e = .returned (.int .i64 (lkE l)) ∧ Below w.heap.size w w' := by
  unfold maxLen at hm
  by_cases h0 : n = 0
  · subst h0
    have hE := Lib.hid (show lkE l = 2 by have := hs.1; unfold lkE lkB; rw [decide_eq_false (by omega)]; rfl)
    go_enter Tryd.func105, Tryd.ntmps105
    go_wp2_with fail
    go_ret
    exact ⟨by rw [hE.out]; rfl, Below.refl _ _⟩
  · have hn0 : ¬ (n : Int) = 0 := by omega
    have hn1 : ((n : Int) == 0) = false := by simp; omega
    go_enter Tryd.func105, Tryd.ntmps105
    go_wp2_with fail
    go_loopw [3] (fun i wr => ∃ k : Nat, i = .int .i64 (k + 1) ∧ k + 1 ≤ n ∧ (∀ j, j < k → adj (at_ l j) (at_ l (j + 1)) = true) ∧ Below w.heap.size w wr) (fun i _ => n - (intOf i).toNat)
    case atStart => exact ⟨0, rfl, by omega, fun j hj => absurd hj (Nat.not_lt_zero _), Below.refl _ _⟩
    case round =>
      obtain ⟨k, rfl, hk, hall, hb⟩ := hrel
      have HA := Lib.hid hall; clear hall
      by_cases hlt : k + 1 < n
      · have hlt' : (k : Int) + 1 < (n : Int) := by omega
        obtain ⟨ad, rfl, r1⟩ := (hs.below hb).row (k := k) (by omega)
        obtain ⟨ad', e, r2⟩ := (hs.below hb).row (k := k + 1) (by omega)
        obtain rfl : ad = ad' := Option.some.inj e
        obtain ⟨a, eA⟩ : ∃ a, at_ l k = a := ⟨_, rfl⟩
        obtain ⟨b, eB⟩ : ∃ b, at_ l (k + 1) = b := ⟨_, rfl⟩
        rw [eA] at r1; rw [eB] at r2
        obtain ⟨q10, q11, q12, q13, q14⟩ := SpAt.of r1
        obtain ⟨q20, q21, q22, q23, q24⟩ := SpAt.of r2
        have hsub : IntKind.i64.wrap (k : Int) = (k : Int) := by simp [IntKind.wrap, IntKind.bits, IntKind.signed]; omega
        have i1 : (0 : Int) ≤ (k : Int) + 1 := by omega
        have i2 : ((k : Int) + 1).toNat = k + 1 := by omega
        have i3 : (0 : Int) ≤ (k : Int) := by omega
        have i4 : (k : Int) < (n : Int) := by omega
        have hAL := Lib.hid (fun w' => alike_any b a w')
        by_cases hf : b.f ≤ a.f
        · have hE := Lib.hid (show lkE l = 2 by
            unfold lkE; rw [if_neg]; intro h
            have := (lk_iff.1 h).2 k (by have := hs.1; omega)
            rw [eA, eB] at this
            unfold adj at this
            rw [Bool.and_eq_true, decide_eq_true_iff] at this
            omega)
          clear eA eB
          go_wp2_with fail
          go_quiet ((go_at_call 0))
          go_wp2_with fail
          go_ret
          exact ⟨by rw [hE.out]; rfl, bdN hb _⟩
        · cases hal : alk b a with
          | true =>
            have hE := Lib.hid (show lkE l = 2 by
              unfold lkE; rw [if_neg]; intro h
              have := (lk_iff.1 h).2 k (by have := hs.1; omega)
              rw [eA, eB] at this
              unfold adj at this
              rw [hal] at this
              simp at this)
            clear eA eB
            have hfd : decide (b.f ≤ a.f) = false := decide_eq_false hf
            clear hf
            go_wp2_with fail
            first | (go_region_held3 (fun w' => Below w.heap.size w w' ∧ w'.cell? (ad.add (k * 3)) = some (.int .i64 a.f) ∧ w'.cell? ((ad.add (k * 3)).add 1) = some (.int .i64 a.o) ∧ w'.cell? ((ad.add (k * 3)).add 2) = some (.bool a.d) ∧ w'.cell? ⟨(ad.add (k * 3)).block, (ad.add (k * 3)).off + 1, none⟩ = some (.int .i64 a.o) ∧ w'.cell? ⟨(ad.add (k * 3)).block, (ad.add (k * 3)).off + 2, none⟩ = some (.bool a.d) ∧ w'.cell? (ad.add ((k + 1) * 3)) = some (.int .i64 b.f) ∧ w'.cell? ((ad.add ((k + 1) * 3)).add 1) = some (.int .i64 b.o) ∧ w'.cell? ((ad.add ((k + 1) * 3)).add 2) = some (.bool b.d) ∧ w'.cell? ⟨(ad.add ((k + 1) * 3)).block, (ad.add ((k + 1) * 3)).off + 1, none⟩ = some (.int .i64 b.o) ∧ w'.cell? ⟨(ad.add ((k + 1) * 3)).block, (ad.add ((k + 1) * 3)).off + 2, none⟩ = some (.bool b.d)) (first | assumption | (go_split_ands; (refine ⟨?_, ?_, ?_, ?_, ?_, ?_, ?_, ?_, ?_, ?_, ?_⟩ <;> first | assumption | exact (hbx.cell (World.block_lt_of_cell? _ _ (by assumption))).trans (by assumption) | exact Below.trans (by assumption) (hbx.mono (Below.size (by assumption))) | exact Below.drew (by assumption)))) (first | (go_at_call 135; refine (hAL.out _).mono ?_; rintro e w' ⟨rfl, hbx⟩; rw [hal]))) | fail
            all_goals
              go_split_ands
              go_wp2_with fail
              go_ret
              exact ⟨by rw [hE.out]; rfl, by assumption⟩
          | false =>
            have hN := Lib.hid (show ∀ j, j < k + 1 → adj (at_ l j) (at_ l (j + 1)) = true from fun j hj => by
              by_cases e : j = k
              · subst e; rw [eA, eB]; unfold adj; rw [hal]; simp; omega
              · exact HA.out j (by omega))
            clear eA eB
            have hfd : decide (b.f ≤ a.f) = false := decide_eq_false hf
            clear hf
            go_wp2_with fail
            first | (go_region_held3 (fun w' => Below w.heap.size w w' ∧ w'.cell? (ad.add (k * 3)) = some (.int .i64 a.f) ∧ w'.cell? ((ad.add (k * 3)).add 1) = some (.int .i64 a.o) ∧ w'.cell? ((ad.add (k * 3)).add 2) = some (.bool a.d) ∧ w'.cell? ⟨(ad.add (k * 3)).block, (ad.add (k * 3)).off + 1, none⟩ = some (.int .i64 a.o) ∧ w'.cell? ⟨(ad.add (k * 3)).block, (ad.add (k * 3)).off + 2, none⟩ = some (.bool a.d) ∧ w'.cell? (ad.add ((k + 1) * 3)) = some (.int .i64 b.f) ∧ w'.cell? ((ad.add ((k + 1) * 3)).add 1) = some (.int .i64 b.o) ∧ w'.cell? ((ad.add ((k + 1) * 3)).add 2) = some (.bool b.d) ∧ w'.cell? ⟨(ad.add ((k + 1) * 3)).block, (ad.add ((k + 1) * 3)).off + 1, none⟩ = some (.int .i64 b.o) ∧ w'.cell? ⟨(ad.add ((k + 1) * 3)).block, (ad.add ((k + 1) * 3)).off + 2, none⟩ = some (.bool b.d)) (first | assumption | (go_split_ands; (refine ⟨?_, ?_, ?_, ?_, ?_, ?_, ?_, ?_, ?_, ?_, ?_⟩ <;> first | assumption | exact (hbx.cell (World.block_lt_of_cell? _ _ (by assumption))).trans (by assumption) | exact Below.trans (by assumption) (hbx.mono (Below.size (by assumption))) | exact Below.drew (by assumption)))) (first | (go_at_call 135; refine (hAL.out _).mono ?_; rintro e w' ⟨rfl, hbx⟩; rw [hal]))) | fail
            all_goals
              go_split_ands
              go_wp2_with fail
              go_roundw
              case rel => exact ⟨k + 1, by go_num, by omega, hN.out, by assumption⟩
              case measure => simp [intOf]; omega
      · have hlt' : ¬ (k : Int) + 1 < (n : Int) := by omega
        have hE := Lib.hid (show lkE l = 0 by
          unfold lkE; rw [if_pos]; exact lk_iff.2 ⟨by have := hs.1; omega, fun i hi => HA.out i (by have := hs.1; omega)⟩)
        go_wp2_with fail
        go_ret
        exact ⟨by rw [hE.out]; rfl, hb⟩
end Go.Proofs.YtefcjccapekjdaaDoor.Ft
