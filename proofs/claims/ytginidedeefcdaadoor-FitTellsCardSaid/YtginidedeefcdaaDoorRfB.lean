/-
  THE REFERENCE, walked: a year's begin; spans checked.
-/
import Derived.Test.YtginidedeefcdaaDoorFtL
import Derived.Test.YtginidedeefcdaaDoorCvR
import Derived.BigQuiet
namespace Go.Proofs.YtginidedeefcdaaDoor.Ft
open Go.ChangeShapes Go.WideShapes Go.ChangeAt Go.RowKit
open Go.Proofs.YtginidedeefcdaaDoor
open Go.Proofs.YtginidedeefcdaaDoor.Wd
open Go.Proofs.YtginidedeefcdaaDoor.Rec
open Go.Proofs.YtginidedeefcdaaDoor.Yr
open Go.Proofs.YtginidedeefcdaaDoor.Tb
open Go.Proofs.YtginidedeefcdaaDoor.Clk (yrV yrE)
open Go.Proofs.YtginidedeefcdaaDoor.Civ (Tab Inv)
set_option linter.unusedVariables false
theorem rbegin_any (Y : Int) (w : World) (h1 : 1 ≤ Y) (h2 : Y ≤ 10000) :
    Calls Tryd.prog 47 #[.int .i64 Y] w fun e w' => e = .returned (.tuple #[.int .i64 (begY Y), .int .i64 0]) ∧ w = w' := by
  have hf := fun w => Civ.rfir_any Y w
  have e := (Cal.okF_iff Y).2 ⟨h1, h2⟩
  unfold Cal.firV Cal.firE at hf
  simp only [if_pos e] at hf
  have hb : -719162 ≤ Cal.first Y ∧ Cal.first Y ≤ 2932897 := by unfold Cal.first; omega
  have hB := Lib.hid (show begY Y = Cal.first Y * 86400 from rfl)
  obtain ⟨b1, b2⟩ := hb
  clear e
  generalize Cal.first Y = F at *
  go_enter Tryd.func47, Tryd.ntmps47
  go_wp2_with fail
  refine (hf _).mono ?_; rintro e wq ⟨rfl, rfl⟩
  go_wp2_with fail
  go_ret2
  exact ⟨by rw [hB.out]; rfl, rfl⟩
set_option maxHeartbeats 1600000 in
theorem ralike_any (a b : Sp) (w : World) :
    Calls Tryd.prog 95 #[a.V, b.V] w fun e w' => e = .returned (.bool (alk a b)) ∧ Below w.heap.size w w' := by
  obtain ⟨af, ao, ad⟩ := a
  obtain ⟨bf, bo, bd⟩ := b
  have hb : Below w.heap.size w ((w.alloc (.cells #[.int .i64 af, .int .i64 ao, .bool ad] 40)).alloc (.cells #[.int .i64 bf, .int .i64 bo, .bool bd] 40)) := ((Below.refl _ _).alloc (Nat.le_refl _) _).alloc (by simp) _
  cases h1 : ao == bo
  · have HV := Lib.hid (show alk ⟨af, ao, ad⟩ ⟨bf, bo, bd⟩ = false by unfold alk; simp only [h1]; rfl)
    go_enter Tryd.func95, Tryd.ntmps95
    go_wp2
    go_ret
    exact ⟨by rw [HV.out]; rfl, hb⟩
  · have HV := Lib.hid (show alk ⟨af, ao, ad⟩ ⟨bf, bo, bd⟩ = (ad == bd) by unfold alk; simp only [h1]; simp)
    go_enter Tryd.func95, Tryd.ntmps95
    go_wp2
    go_ret
    exact ⟨by rw [HV.out]; rfl, hb⟩
set_option maxRecDepth 20000 in
set_option maxHeartbeats 1600000 in
theorem rcheck_any (A : Option Addr) (n c : Nat) (l : List Sp) (w : World) (hs : Spans w w.heap.size A n l) (hm : n ≤ maxLen) :
    Calls Tryd.prog 79 #[.slice A n c] w fun e w' => e = .returned (.int .i64 (lkE l)) ∧ Below w.heap.size w w' := by
  unfold maxLen at hm
  go_enter Tryd.func79, Tryd.ntmps79
  go_wp2_with fail
  go_loopw [6, 3] (fun i _ wr => ∃ k : Nat, i = .int .i64 k ∧ k ≤ n ∧ (∀ j, j + 1 < k → adj (at_ l j) (at_ l (j + 1)) = true) ∧ Below w.heap.size w wr) (fun i _ _ => n - (intOf i).toNat)
  case atStart => exact ⟨0, rfl, Nat.zero_le _, fun j hj => absurd hj (Nat.not_lt_zero _), Below.refl _ _⟩
  case round =>
    obtain ⟨k, rfl, hk, hall, hb⟩ := hrel
    have HA := Lib.hid hall; clear hall
    by_cases hkn : k < n
    · have hkn' : (k : Int) < (n : Int) := by omega
      by_cases hk0 : k = 0
      · subst hk0
        have hd0 : decide ((0 : Int) < ((0 : Nat) : Int)) = false := by decide
        go_wp2_with fail
        go_quiet ((go_at_call 0))
        go_wp2_with fail
        go_roundw
        case rel => exact ⟨1, by go_num, by omega, fun j hj => by omega, bdN hb _⟩
        case measure => simp [intOf]; omega
      · obtain ⟨k, rfl⟩ : ∃ m, k = m + 1 := ⟨k - 1, by omega⟩
        have hlt' : (k : Int) + 1 < (n : Int) := by omega
        have hpos : (0 : Int) < (k : Int) + 1 := by omega
        rw [show ((k + 1 : Nat) : Int) = (k : Int) + 1 from by push_cast; rfl]
        obtain ⟨ad, rfl, r1⟩ := (hs.below hb).row (k := k) (by omega)
        obtain ⟨ad', e, r2⟩ := (hs.below hb).row (k := k + 1) (by omega)
        obtain rfl : ad = ad' := Option.some.inj e
        obtain ⟨a, eA⟩ : ∃ a, at_ l k = a := ⟨_, rfl⟩
        obtain ⟨b, eB⟩ : ∃ b, at_ l (k + 1) = b := ⟨_, rfl⟩
        rw [eA] at r1; rw [eB] at r2
        obtain ⟨q10, q11, q12, q13, q14⟩ := SpAt.of r1
        obtain ⟨q20, q21, q22, q23, q24⟩ := SpAt.of r2
        have hsub : IntKind.i64.wrap (k : Int) = (k : Int) := by simp [IntKind.wrap, IntKind.bits, IntKind.signed]; omega
        have i1 : (0 : Int) ≤ (k : Int) + 1 := by omega
        have i2 : ((k : Int) + 1).toNat = k + 1 := by omega
        have i3 : (0 : Int) ≤ (k : Int) := by omega
        have i4 : (k : Int) < (n : Int) := by omega
        have hAL := Lib.hid (fun w' => ralike_any b a w')
        by_cases hf : b.f ≤ a.f
        · have hE := Lib.hid (show lkE l = 2 by
            unfold lkE; rw [if_neg]; intro h
            have := (lk_iff.1 h).2 k (by have := hs.1; omega)
            rw [eA, eB] at this
            unfold adj at this
            rw [Bool.and_eq_true, decide_eq_true_iff] at this
            omega)
          clear eA eB
          go_wp2_with fail
          go_quiet ((go_at_call 0))
          go_wp2_with fail
          go_ret
          exact ⟨by rw [hE.out]; rfl, bdN hb _⟩
        · cases hal : alk b a with
          | true =>
            have hE := Lib.hid (show lkE l = 2 by
              unfold lkE; rw [if_neg]; intro h
              have := (lk_iff.1 h).2 k (by have := hs.1; omega)
              rw [eA, eB] at this
              unfold adj at this
              rw [hal] at this
              simp at this)
            clear eA eB
            have hfd : decide (b.f ≤ a.f) = false := decide_eq_false hf
            clear hf
            go_wp2_with fail
            first | (go_region_held3 (fun w' => Below w.heap.size w w' ∧ w'.cell? (ad.add (k * 3)) = some (.int .i64 a.f) ∧ w'.cell? ((ad.add (k * 3)).add 1) = some (.int .i64 a.o) ∧ w'.cell? ((ad.add (k * 3)).add 2) = some (.bool a.d) ∧ w'.cell? ⟨(ad.add (k * 3)).block, (ad.add (k * 3)).off + 1, none⟩ = some (.int .i64 a.o) ∧ w'.cell? ⟨(ad.add (k * 3)).block, (ad.add (k * 3)).off + 2, none⟩ = some (.bool a.d) ∧ w'.cell? (ad.add ((k + 1) * 3)) = some (.int .i64 b.f) ∧ w'.cell? ((ad.add ((k + 1) * 3)).add 1) = some (.int .i64 b.o) ∧ w'.cell? ((ad.add ((k + 1) * 3)).add 2) = some (.bool b.d) ∧ w'.cell? ⟨(ad.add ((k + 1) * 3)).block, (ad.add ((k + 1) * 3)).off + 1, none⟩ = some (.int .i64 b.o) ∧ w'.cell? ⟨(ad.add ((k + 1) * 3)).block, (ad.add ((k + 1) * 3)).off + 2, none⟩ = some (.bool b.d)) (first | assumption | (go_split_ands; (refine ⟨?_, ?_, ?_, ?_, ?_, ?_, ?_, ?_, ?_, ?_, ?_⟩ <;> first | assumption | exact (hbx.cell (World.block_lt_of_cell? _ _ (by assumption))).trans (by assumption) | exact Below.trans (by assumption) (hbx.mono (Below.size (by assumption))) | exact Below.drew (by assumption)))) (first | (go_at_call 95; refine (hAL.out _).mono ?_; rintro e w' ⟨rfl, hbx⟩; rw [hal]))) | fail
            all_goals
              go_split_ands
              go_wp2_with fail
              go_ret
              exact ⟨by rw [hE.out]; rfl, by assumption⟩
          | false =>
            have hN := Lib.hid (show ∀ j, j + 1 < k + 1 + 1 → adj (at_ l j) (at_ l (j + 1)) = true from fun j hj => by
              by_cases e : j = k
              · subst e; rw [eA, eB]; unfold adj; rw [hal]; simp; omega
              · exact HA.out j (by omega))
            clear eA eB
            have hfd : decide (b.f ≤ a.f) = false := decide_eq_false hf
            clear hf
            go_wp2_with fail
            first | (go_region_held3 (fun w' => Below w.heap.size w w' ∧ w'.cell? (ad.add (k * 3)) = some (.int .i64 a.f) ∧ w'.cell? ((ad.add (k * 3)).add 1) = some (.int .i64 a.o) ∧ w'.cell? ((ad.add (k * 3)).add 2) = some (.bool a.d) ∧ w'.cell? ⟨(ad.add (k * 3)).block, (ad.add (k * 3)).off + 1, none⟩ = some (.int .i64 a.o) ∧ w'.cell? ⟨(ad.add (k * 3)).block, (ad.add (k * 3)).off + 2, none⟩ = some (.bool a.d) ∧ w'.cell? (ad.add ((k + 1) * 3)) = some (.int .i64 b.f) ∧ w'.cell? ((ad.add ((k + 1) * 3)).add 1) = some (.int .i64 b.o) ∧ w'.cell? ((ad.add ((k + 1) * 3)).add 2) = some (.bool b.d) ∧ w'.cell? ⟨(ad.add ((k + 1) * 3)).block, (ad.add ((k + 1) * 3)).off + 1, none⟩ = some (.int .i64 b.o) ∧ w'.cell? ⟨(ad.add ((k + 1) * 3)).block, (ad.add ((k + 1) * 3)).off + 2, none⟩ = some (.bool b.d)) (first | assumption | (go_split_ands; (refine ⟨?_, ?_, ?_, ?_, ?_, ?_, ?_, ?_, ?_, ?_, ?_⟩ <;> first | assumption | exact (hbx.cell (World.block_lt_of_cell? _ _ (by assumption))).trans (by assumption) | exact Below.trans (by assumption) (hbx.mono (Below.size (by assumption))) | exact Below.drew (by assumption)))) (first | (go_at_call 95; refine (hAL.out _).mono ?_; rintro e w' ⟨rfl, hbx⟩; rw [hal]))) | fail
            all_goals
              go_split_ands
              go_wp2_with fail
              go_roundw
              case rel => exact ⟨k + 1 + 1, by go_num, by omega, hN.out, by assumption⟩
              case measure => simp [intOf]; omega
    · have hlt' : ¬ (k : Int) < (n : Int) := by omega
      obtain rfl : n = k := by omega
      cases h0 : ((n : Int) == 0) with
      | true =>
        have hn0 : n = 0 := by simpa using h0
        have hE := Lib.hid (show lkE l = 2 by have := hs.1; unfold lkE lkB; rw [decide_eq_false (by omega)]; rfl)
        clear hn0
        go_wp2_with fail
        go_ret
        exact ⟨by rw [hE.out]; rfl, hb⟩
      | false =>
        have hn0 : ¬ n = 0 := by intro e; subst e; simp at h0
        have hE := Lib.hid (show lkE l = 0 by
          unfold lkE; rw [if_pos]; exact lk_iff.2 ⟨by have := hs.1; omega, fun i hi => HA.out i (by have := hs.1; omega)⟩)
        clear hn0
        go_wp2_with fail
        go_ret
        exact ⟨by rw [hE.out]; rfl, hb⟩
end Go.Proofs.YtginidedeefcdaaDoor.Ft
