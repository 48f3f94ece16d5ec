/-
  TopLast, WALKED.
-/
import Derived.Test.YtginidedeefcdaaDoorTpL
namespace Go.Proofs.YtginidedeefcdaaDoor.Wk
open Go.ChangeShapes Go.WideShapes Go.ChangeAt Go.RowKit
open Go.Proofs.YtginidedeefcdaaDoor
open Go.Proofs.YtginidedeefcdaaDoor.Wd
open Go.Proofs.YtginidedeefcdaaDoor.Dy
open Go.Proofs.YtginidedeefcdaaDoor.Civ (Tab ret_bool)
set_option linter.unusedVariables false
theorem inE_out {k n dw y m : Int} (h : dw < 0 ∨ 6 < dw) : inE k n dw y m = 2 := by
  unfold inE
  have : dDs k ≤ 6 := by unfold dDs; split <;> decide
  rw [dE_no (by omega), if_pos rfl]
theorem inE_off {k n dw y m : Int} (h : ¬ Cal.okYM y m = true) : inE k n dw y m = 1 ∨ inE k n dw y m = 2 := by
  unfold inE
  rw [(Civ.len_off h).1]
  by_cases q : dE k n dw = 2
  · right; rw [if_pos q]
  · left; rw [if_neg q, if_pos rfl]
set_option maxRecDepth 20000 in
set_option maxHeartbeats 3200000 in
theorem last_any (y m dw : Int) (w : World) (hT : Tab w) :
    Calls Tryd.prog 7 #[.int .i64 y, .int .i64 m, .int .i64 dw] w fun e w' => e = .returned (.bool true) ∧ Below w.heap.size w w' := by
  by_cases hy : Cal.okYM y m = true
  · obtain ⟨hl, hv⟩ := Civ.len_of hy
    have hml := Cal.mlen_bd y m
    have hc : dw < 0 ∨ (¬ dw < 0 ∧ 6 < dw) ∨ (¬ dw < 0 ∧ ¬ 6 < dw) := by omega
    rcases hc with h1 | ⟨h1, h2⟩ | ⟨h1, h2⟩
    · have hv0 := @inE_out 1 0 dw y m (.inl h1)
      clear hy
      go_enter Tryd.func7, Tryd.ntmps7
      go_wp2_with (first | (go_at_call 26; refine (begins3_any _).mono ?_; rintro e w1 ⟨rfl, hb1⟩; have hT1 := hT.below hT.1 hb1) | (go_at_call 27; refine (Civ.len_any _ _ _ hT1).mono ?_; rintro e w2 ⟨rfl, rfl⟩; rw [hl, hv]))
      refine (in_any 1 0 dw y m _ hT1 (by decide)).mono ?_; rintro e w3 ⟨rfl, hb3⟩
      rw [hv0]
      go_wp2_with fail
      go_ret
      exact ⟨rfl, hb1.trans (hb3.mono hb1.size)⟩
    · have hv0 := @inE_out 1 0 dw y m (.inr h2)
      clear hy
      go_enter Tryd.func7, Tryd.ntmps7
      go_wp2_with (first | (go_at_call 26; refine (begins3_any _).mono ?_; rintro e w1 ⟨rfl, hb1⟩; have hT1 := hT.below hT.1 hb1) | (go_at_call 27; refine (Civ.len_any _ _ _ hT1).mono ?_; rintro e w2 ⟨rfl, rfl⟩; rw [hl, hv]))
      refine (in_any 1 0 dw y m _ hT1 (by decide)).mono ?_; rintro e w3 ⟨rfl, hb3⟩
      rw [hv0]
      go_wp2_with fail
      go_ret
      exact ⟨rfl, hb1.trans (hb3.mono hb1.size)⟩
    · obtain ⟨a, a1, a2, ⟨p1, p2⟩, ⟨q1, q2⟩, ⟨r1, r2⟩, ⟨s1, s2⟩⟩ := last_facts (dw := dw) hy (by omega) (by omega)
      obtain ⟨ml1, ml2⟩ := hml
      generalize Cal.mlen y m = LL at *
      clear hy
      go_enter Tryd.func7, Tryd.ntmps7
      go_wp2_with (first | (go_at_call 26; refine (begins3_any _).mono ?_; rintro e w1 ⟨rfl, hb1⟩; have hT1 := hT.below hT.1 hb1) | (go_at_call 27; refine (Civ.len_any _ _ _ hT1).mono ?_; rintro e w2 ⟨rfl, rfl⟩; rw [hl, hv]))
      refine (in_any 1 0 dw y m _ hT1 (by decide)).mono ?_; rintro e w3 ⟨rfl, hb3⟩
      rw [p1, p2]
      have hB3 := hb1.trans (hb3.mono hb1.size)
      have hT3 := hT.below hT.1 hB3
      go_wp2_with fail
      refine (in_any 2 (LL - 6) dw y m _ hT3 (by decide)).mono ?_; rintro e w4 ⟨rfl, hb4⟩
      rw [q1, q2]
      have hB4 := hB3.trans (hb4.mono hB3.size)
      have hT4 := hT.below hT.1 hB4
      go_wp2_with fail
      refine (in_any 3 LL dw y m _ hT4 (by decide)).mono ?_; rintro e w5 ⟨rfl, hb5⟩
      rw [r1, r2]
      have hB5 := hB4.trans (hb5.mono hB4.size)
      have hT5 := hT.below hT.1 hB5
      go_wp2_with fail
      refine (in_any 2 (LL - 13) dw y m _ hT5 (by decide)).mono ?_; rintro e w6 ⟨rfl, hb6⟩
      rw [s1, s2]
      have hB6 := hB5.trans (hb6.mono hB5.size)
      go_wp2_with fail
      go_ret
      exact ⟨rfl, hB6⟩
  · obtain ⟨hl, hv⟩ := Civ.len_off hy
    rcases @inE_off 1 0 dw y m hy with hv0 | hv0
    · clear hy
      go_enter Tryd.func7, Tryd.ntmps7
      go_wp2_with (first | (go_at_call 26; refine (begins3_any _).mono ?_; rintro e w1 ⟨rfl, hb1⟩; have hT1 := hT.below hT.1 hb1) | (go_at_call 27; refine (Civ.len_any _ _ _ hT1).mono ?_; rintro e w2 ⟨rfl, rfl⟩; rw [hl, hv]))
      refine (in_any 1 0 dw y m _ hT1 (by decide)).mono ?_; rintro e w3 ⟨rfl, hb3⟩
      rw [hv0]
      go_wp2_with fail
      go_ret
      exact ⟨rfl, hb1.trans (hb3.mono hb1.size)⟩
    · clear hy
      go_enter Tryd.func7, Tryd.ntmps7
      go_wp2_with (first | (go_at_call 26; refine (begins3_any _).mono ?_; rintro e w1 ⟨rfl, hb1⟩; have hT1 := hT.below hT.1 hb1) | (go_at_call 27; refine (Civ.len_any _ _ _ hT1).mono ?_; rintro e w2 ⟨rfl, rfl⟩; rw [hl, hv]))
      refine (in_any 1 0 dw y m _ hT1 (by decide)).mono ?_; rintro e w3 ⟨rfl, hb3⟩
      rw [hv0]
      go_wp2_with fail
      go_ret
      exact ⟨rfl, hb1.trans (hb3.mono hb1.size)⟩
end Go.Proofs.YtginidedeefcdaaDoor.Wk
