/-
  THE STABLE SORT OF PLACES: any merge; the sort: walked.
-/
import Derived.Test.YtoiccljmdplfgaaSo4
namespace Go.Proofs.Ytoiccljmdplfgaa.So
open Go.ChangeShapes Go.WideShapes Go.ChangeAt Go.RowKit
open Go.Proofs.Ytoiccljmdplfgaa
open Go.Proofs.Ytoiccljmdplfgaa.Wd
open Go.Proofs.Ytoiccljmdplfgaa.Nr (Only cmpF)
set_option linter.unusedVariables false
set_option linter.unusedSimpArgs false
theorem mrg_pm {far : Nat → Int} {lo l m hi : Nat} {a b : Fn_} (k : Mrg far l m hi a) (p : Pm lo l a b) : Mrg far l m hi b := by
  have e : ∀ x, l ≤ x → b x = a x := fun x hx => p.out (.inr hx)
  have h1 := k.lm; have h2 := k.mh
  exact ⟨fun i j i1 ij j2 => by rw [e i i1, e j (by omega)]; exact k.l i j i1 ij j2, fun i j i1 ij j2 => by rw [e i (by omega), e j (by omega)]; exact k.r i j i1 ij j2, fun i j i1 i2 j1 j2 => by rw [e i i1, e j (by omega)]; exact k.v i j i1 i2 j1 j2, k.lm, k.mh⟩
set_option maxRecDepth 1000000 in
set_option maxHeartbeats 51200000 in
theorem sym_hi (gO gT gF n : Nat) (far : Nat → Int) (lo m hi md : Nat) (a : Fn_) (W : World) (h : En gO gT gF n far a W) (h1 : gO ≠ gT) (h2 : gO ≠ gF) (hn : n ≤ 4096) (hM : Mrg far lo m hi a) (hhi : hi ≤ n) (hlm : lo + 1 < m) (hmh : m + 1 < hi) (hmd : md = (lo + hi) / 2) (hg : md < m)
    (IH : ∀ lo' m' hi' a' W', hi' - lo' < hi - lo → En gO gT gF n far a' W' → Mrg far lo' m' hi' a' → lo' < m' → m' < hi' → hi' ≤ n → Calls Try.prog 102 #[.slice (some ⟨gO, 0, none⟩) n n, .int .i64 (lo' : Int), .int .i64 (m' : Int), .int .i64 (hi' : Int), cmpF gT] W' (SoP gO gT gF n far lo' hi' a' W')) :
    Calls Try.prog 102 #[.slice (some ⟨gO, 0, none⟩) n n, .int .i64 (lo : Int), .int .i64 (m : Int), .int .i64 (hi : Int), cmpF gT] W (SoP gO gT gF n far lo hi a W) := by
  have hlh : lo < hi := by omega
  have hmdI : ((lo : Int) + (hi : Int)) / 2 = (md : Int) := by omega
  have q0 : ((m : Int) - (lo : Int) == 1) = false := beq_eq_false_iff_ne.2 (by omega)
  have q2 : ((hi : Int) - (m : Int) == 1) = false := beq_eq_false_iff_ne.2 (by omega)
  have q3 : (md : Int) < (m : Int) := by omega
  have hmd1 : 2 * md ≤ lo + hi := by omega
  have hmd2 : lo + hi < 2 * md + 2 := by omega
  have HMD := Lib.hid hmd
  have HM := Lib.hid hM; have HIH := Lib.hid IH
  clear hM IH hmd
  go_enter Try.func102, Try.ntmps102
  go_wp2_with fail
  go_loopw [20, 21] (fun v u wr => ∃ st r : Nat, v = .int .i64 st ∧ u = .int .i64 r ∧ (md + m - hi) ≤ st ∧ st ≤ r ∧ r ≤ md ∧ (∀ q, (md + m - hi) ≤ q → q < st → Lt far (a q) (a (md + m - 1 - q))) ∧ (∀ q, r ≤ q → q < md → Lt far (a (md + m - 1 - q)) (a q)) ∧ En gO gT gF n far a wr ∧ Only gO W wr) (fun v u _ => (intOf u).toNat - (intOf v).toNat)
  case atStart => exact ⟨(md + m - hi), md, by first | rfl | rw [show (((md + m - hi) : Nat) : Int) = (md : Int) + (m : Int) - (hi : Int) by omega], rfl, Nat.le_refl _, by omega, Nat.le_refl _, fun q q1 q2 => by omega, fun q q1 q2 => by omega, h, Only.refl _ _⟩
  case round =>
    clear h
    obtain ⟨st, r, rfl, rfl, g1, hst1, hst2, hA, hB, hE, hO⟩ := hrel
    have HA := Lib.hid hA; have HB := Lib.hid hB
    clear hA hB
    by_cases hlt : st < r
    · have hlt' : (st : Int) < (r : Int) := by omega
      obtain ⟨c, hc⟩ : ∃ c : Nat, ((st : Int) + (r : Int)) / 2 = (c : Int) := ⟨(st + r) / 2, by omega⟩
      have hc1 : st ≤ c := by omega
      have hc2 : c < r := by omega
      have hcr : c < md := by omega
      have hcs : (md + m - hi) ≤ c := by omega
      go_upto_region 35 with fail
      try rw [hc]
      clear hc
      have hpc : md + m - 1 - c < n := by omega
      have hpI : (md : Int) + (m : Int) - 1 - (c : Int) = ((md + m - 1 - c : Nat) : Int) := by omega
      have b1 := hE.b (md + m - 1 - c) hpc; have b2 := hE.b c (by omega)
      have c1 : wr.cell? ⟨gO, md + m - 1 - c, none⟩ = some (.int .i64 (a (md + m - 1 - c) : Nat)) := hE.o.cell (i := md + m - 1 - c) hpc
      have c2 : wr.cell? ⟨gO, c, none⟩ = some (.int .i64 (a c : Nat)) := hE.o.cell (i := c) (by omega)
      have hcm := fun q => cmp_any gO gT gF n far a (wr.drewN q) (hE.drewN q) hn (a (md + m - 1 - c)) (a c) b1 b2
      have hY := Lib.hid (fun (hf : far (a (md + m - 1 - c)) < far (a c)) q (q1 : c ≤ q) (q2 : q < md) => (show Lt far (a (md + m - 1 - q)) (a q) from bs3_hi (p := md + m - 1) HM.out hf (by omega) q1 (by omega) (by omega) (by omega)))
      have hN := Lib.hid (fun (hf : ¬ far (a (md + m - 1 - c)) < far (a c)) q (q1 : (md + m - hi) ≤ q) (q2 : q < c + 1) => (show Lt far (a q) (a (md + m - 1 - q)) from bs3_lo (p := md + m - 1) HM.out hf (by omega) (show q ≤ c by omega) (by omega) (by omega) (by omega)))
      generalize md + m - 1 - c = pc at *
      have t1 : (c : Int) < (n : Int) := by omega
      have t2 : (pc : Int) < (n : Int) := by omega
      have t3 : (0 : Int) ≤ (pc : Int) := by omega
      have t4 : IntKind.i64.wrap ((md : Int) + (m : Int) - 1 - (c : Int)) = (pc : Int) := by rw [hpI]; exact IntWalk.i64_in _ (by omega)
      by_cases hf : far (a pc) < far (a c)
      · have f0 := lt0_yes hf
        have HB2 := Lib.hid (hY.out hf)
        clear hY hN
        generalize far (a pc) = fi at *
        generalize far (a c) = fk at *
        generalize cmpV fi fk = cv at *
        go_quiet ((go_at_call 75; exact Calls.quiet_of (hcm _)))
        go_wp2_with fail
        go_roundw
        case rel => exact ⟨st, c, rfl, rfl, g1, hc1, by omega, HA.out, HB2.out, hE.drewN _, only_drewN hO _⟩
        case measure => simp [intOf]; omega
      · have f0 := lt0_no hf
        have HA2 := Lib.hid (hN.out hf)
        clear hY hN
        generalize far (a pc) = fi at *
        generalize far (a c) = fk at *
        generalize cmpV fi fk = cv at *
        go_quiet ((go_at_call 75; exact Calls.quiet_of (hcm _)))
        go_wp2_with fail
        go_roundw
        case rel => exact ⟨c + 1, r, by go_num, rfl, by omega, by omega, hst2, HA2.out, HB.out, hE.drewN _, only_drewN hO _⟩
        case measure => simp [intOf]; omega
    · obtain rfl : st = r := by omega
      have hlt' : ¬ (st : Int) < (st : Int) := by omega
      have hFD : Fnd_ far lo m hi md st (md + m - st) a := bs3_end HMD.out (by omega) (by omega) (show (m > md → (md + m - hi) = md + m - hi ∧ md = md) ∧ (¬ m > md → (md + m - hi) = lo ∧ md = m) from by omega) g1 hst2 HA.out HB.out
      have hel : st ≤ md + m := by omega
      obtain ⟨en, hen⟩ : ∃ en, en = md + m - st := ⟨_, rfl⟩
      rw [← hen] at hFD
      have HFD := Lib.hid hFD; clear hFD
      have henI : (md : Int) + (m : Int) - (st : Int) = (en : Int) := by omega
      have hfd1 := HFD.out.h1; have hfd2 := HFD.out.h2
      obtain ⟨w2, rfl⟩ : ∃ w2 : World, w2 = wr := ⟨_, rfl⟩
      have HEN := Lib.hid henI
      clear henI hen HA HB HMD
      by_cases g9 : st < m ∧ m < en
      · obtain ⟨ga, gb⟩ := g9
        have ga' : (st : Int) < (m : Int) := by omega
        have gb' : (m : Int) < ((md : Int) + (m : Int) - (st : Int)) := by rw [HEN.out]; omega
        go_wp2_with fail
        have HC := rot_any gO gT gF n far st m en a w2 hE h1 h2 hn ga gb (by omega)
        rw [← HEN.out] at HC
        refine HC.mono ?_; clear HC; rintro e w3 ⟨rfl, hE3, hO3'⟩
        have hE3 : En gO gT gF n far (turned a st m en) w3 := by unfold turned; rw [if_pos ⟨ga, gb⟩]; exact hE3
        have hO3 := hO.trans hO3'
        clear hE hO hO3'
        by_cases g3 : lo < st ∧ st < md
        · obtain ⟨g4, g8⟩ := g3
          have g4' : (lo : Int) < (st : Int) := by omega
          have g8' : (st : Int) < (md : Int) := by omega
          go_wp2_with fail
          refine (HIH.out lo st md (turned a st m en) _ (by omega) hE3 (turned_left HM.out HFD.out hlh) g4 g8 (by omega)).mono ?_; rintro e w4 ⟨rfl, b, hE4, hO4, hP4, hS4⟩
          have HP4 := Lib.hid hP4; have HS4 := Lib.hid hS4; clear hP4 hS4
          have HMR := Lib.hid (mrg_pm (turned_right HM.out HFD.out hlh) HP4.out)
          by_cases g5 : md < en ∧ en < hi
          · obtain ⟨g6, g7⟩ := g5
            have g6' : (md : Int) < ((md : Int) + (m : Int) - (st : Int)) := by rw [HEN.out]; omega
            have g7' : ((md : Int) + (m : Int) - (st : Int)) < (hi : Int) := by rw [HEN.out]; omega
            first
            | (exfalso; have := HEN.out; omega)
            | go_wp2_with fail
              have HC := HIH.out md en hi b _ (by omega) hE4 HMR.out g6 g7 hhi
              rw [← HEN.out] at HC
              refine HC.mono ?_; clear HC; rintro e w5 ⟨rfl, c, hE5, hO5, hP5, hS5⟩
              have HRR := Lib.hid (show SoP gO gT gF n far lo hi a W (.returned (.tuple #[])) _ from ⟨rfl, _, hE5, ((hO3.trans hO4).trans hO5), (((turned_pm a HFD.out).trans (HP4.out.mono (Nat.le_refl _) (by omega))).trans (hP5.mono (by omega) (Nat.le_refl _))), (merged (a := a) (by omega) (by omega) (HS4.out.pm_out hP5 (.inl (Nat.le_refl _))) hS5 (ahead_pm HP4.out hP5 (fun x y x1 x2 y1 y2 => turned_ahead HM.out HFD.out x1 x2 y1 y2)))⟩)
              go_wp2_with fail
              go_end0
              exact HRR.out
          · have hS5 : Sd far md hi b := by
              by_cases g6 : md < en
              · exact Sd.of_mrg_r HMR.out (by omega)
              · exact Sd.of_mrg_l HMR.out (by have := HFD.out.h2; have := HFD.out.e2; have := HFD.out.h1; omega)
            have HS5 := Lib.hid hS5; clear hS5
            have HFIN := Lib.hid (show SoP gO gT gF n far lo hi a W (.returned (.tuple #[])) _ from ⟨rfl, _, hE4, (hO3.trans hO4), (turned_pm a HFD.out).trans (HP4.out.mono (Nat.le_refl _) (by omega)), merged (a := a) (by omega) (by omega) HS4.out HS5.out (ahead_pm HP4.out (Pm.refl md hi b) (fun x y x1 x2 y1 y2 => turned_ahead HM.out HFD.out x1 x2 y1 y2))⟩)
            by_cases g6 : md < en
            · have g6' : (md : Int) < ((md : Int) + (m : Int) - (st : Int)) := by rw [HEN.out]; omega
              have g7' : ¬ ((md : Int) + (m : Int) - (st : Int)) < (hi : Int) := by rw [HEN.out]; omega
              first
              | (exfalso; have := HEN.out; omega)
              | go_wp2_with fail
                go_end0
                exact HFIN.out
            · have g6' : ¬ (md : Int) < ((md : Int) + (m : Int) - (st : Int)) := by rw [HEN.out]; omega
              first
              | (exfalso; have := HEN.out; omega)
              | go_wp2_with fail
                go_end0
                exact HFIN.out
        · have hS4 : Sd far lo md (turned a st m en) := by
            by_cases g4 : lo < st
            · exact Sd.of_mrg_r (turned_left HM.out HFD.out hlh) (by have := HFD.out.h2; have := HFD.out.e2; omega)
            · exact Sd.of_mrg_l (turned_left HM.out HFD.out hlh) (by have := HFD.out.h1; omega)
          have HS4 := Lib.hid hS4; clear hS4
          have HP4 := Lib.hid (Pm.refl lo md (turned a st m en))
          by_cases g4 : lo < st
          · have g4' : (lo : Int) < (st : Int) := by omega
            have g8' : ¬ (st : Int) < (md : Int) := by omega
            have HMR := Lib.hid (mrg_pm (turned_right HM.out HFD.out hlh) HP4.out)
            by_cases g5 : md < en ∧ en < hi
            · obtain ⟨g6, g7⟩ := g5
              have g6' : (md : Int) < ((md : Int) + (m : Int) - (st : Int)) := by rw [HEN.out]; omega
              have g7' : ((md : Int) + (m : Int) - (st : Int)) < (hi : Int) := by rw [HEN.out]; omega
              first
              | (exfalso; have := HEN.out; omega)
              | go_wp2_with fail
                have HC := HIH.out md en hi (turned a st m en) _ (by omega) hE3 HMR.out g6 g7 hhi
                rw [← HEN.out] at HC
                refine HC.mono ?_; clear HC; rintro e w5 ⟨rfl, c, hE5, hO5, hP5, hS5⟩
                have HRR := Lib.hid (show SoP gO gT gF n far lo hi a W (.returned (.tuple #[])) _ from ⟨rfl, _, hE5, (hO3.trans hO5), (((turned_pm a HFD.out).trans (HP4.out.mono (Nat.le_refl _) (by omega))).trans (hP5.mono (by omega) (Nat.le_refl _))), (merged (a := a) (by omega) (by omega) (HS4.out.pm_out hP5 (.inl (Nat.le_refl _))) hS5 (ahead_pm HP4.out hP5 (fun x y x1 x2 y1 y2 => turned_ahead HM.out HFD.out x1 x2 y1 y2)))⟩)
                go_wp2_with fail
                go_end0
                exact HRR.out
            · have hS5 : Sd far md hi (turned a st m en) := by
                by_cases g6 : md < en
                · exact Sd.of_mrg_r HMR.out (by omega)
                · exact Sd.of_mrg_l HMR.out (by have := HFD.out.h2; have := HFD.out.e2; have := HFD.out.h1; omega)
              have HS5 := Lib.hid hS5; clear hS5
              have HFIN := Lib.hid (show SoP gO gT gF n far lo hi a W (.returned (.tuple #[])) _ from ⟨rfl, _, hE3, hO3, (turned_pm a HFD.out).trans (HP4.out.mono (Nat.le_refl _) (by omega)), merged (a := a) (by omega) (by omega) HS4.out HS5.out (ahead_pm HP4.out (Pm.refl md hi (turned a st m en)) (fun x y x1 x2 y1 y2 => turned_ahead HM.out HFD.out x1 x2 y1 y2))⟩)
              by_cases g6 : md < en
              · have g6' : (md : Int) < ((md : Int) + (m : Int) - (st : Int)) := by rw [HEN.out]; omega
                have g7' : ¬ ((md : Int) + (m : Int) - (st : Int)) < (hi : Int) := by rw [HEN.out]; omega
                first
                | (exfalso; have := HEN.out; omega)
                | go_wp2_with fail
                  go_end0
                  exact HFIN.out
              · have g6' : ¬ (md : Int) < ((md : Int) + (m : Int) - (st : Int)) := by rw [HEN.out]; omega
                first
                | (exfalso; have := HEN.out; omega)
                | go_wp2_with fail
                  go_end0
                  exact HFIN.out
          · have g4' : ¬ (lo : Int) < (st : Int) := by omega
            have HMR := Lib.hid (mrg_pm (turned_right HM.out HFD.out hlh) HP4.out)
            by_cases g5 : md < en ∧ en < hi
            · obtain ⟨g6, g7⟩ := g5
              have g6' : (md : Int) < ((md : Int) + (m : Int) - (st : Int)) := by rw [HEN.out]; omega
              have g7' : ((md : Int) + (m : Int) - (st : Int)) < (hi : Int) := by rw [HEN.out]; omega
              first
              | (exfalso; have := HEN.out; omega)
              | go_wp2_with fail
                have HC := HIH.out md en hi (turned a st m en) _ (by omega) hE3 HMR.out g6 g7 hhi
                rw [← HEN.out] at HC
                refine HC.mono ?_; clear HC; rintro e w5 ⟨rfl, c, hE5, hO5, hP5, hS5⟩
                have HRR := Lib.hid (show SoP gO gT gF n far lo hi a W (.returned (.tuple #[])) _ from ⟨rfl, _, hE5, (hO3.trans hO5), (((turned_pm a HFD.out).trans (HP4.out.mono (Nat.le_refl _) (by omega))).trans (hP5.mono (by omega) (Nat.le_refl _))), (merged (a := a) (by omega) (by omega) (HS4.out.pm_out hP5 (.inl (Nat.le_refl _))) hS5 (ahead_pm HP4.out hP5 (fun x y x1 x2 y1 y2 => turned_ahead HM.out HFD.out x1 x2 y1 y2)))⟩)
                go_wp2_with fail
                go_end0
                exact HRR.out
            · have hS5 : Sd far md hi (turned a st m en) := by
                by_cases g6 : md < en
                · exact Sd.of_mrg_r HMR.out (by omega)
                · exact Sd.of_mrg_l HMR.out (by have := HFD.out.h2; have := HFD.out.e2; have := HFD.out.h1; omega)
              have HS5 := Lib.hid hS5; clear hS5
              have HFIN := Lib.hid (show SoP gO gT gF n far lo hi a W (.returned (.tuple #[])) _ from ⟨rfl, _, hE3, hO3, (turned_pm a HFD.out).trans (HP4.out.mono (Nat.le_refl _) (by omega)), merged (a := a) (by omega) (by omega) HS4.out HS5.out (ahead_pm HP4.out (Pm.refl md hi (turned a st m en)) (fun x y x1 x2 y1 y2 => turned_ahead HM.out HFD.out x1 x2 y1 y2))⟩)
              by_cases g6 : md < en
              · have g6' : (md : Int) < ((md : Int) + (m : Int) - (st : Int)) := by rw [HEN.out]; omega
                have g7' : ¬ ((md : Int) + (m : Int) - (st : Int)) < (hi : Int) := by rw [HEN.out]; omega
                first
                | (exfalso; have := HEN.out; omega)
                | go_wp2_with fail
                  go_end0
                  exact HFIN.out
              · have g6' : ¬ (md : Int) < ((md : Int) + (m : Int) - (st : Int)) := by rw [HEN.out]; omega
                first
                | (exfalso; have := HEN.out; omega)
                | go_wp2_with fail
                  go_end0
                  exact HFIN.out
      · have hE3 : En gO gT gF n far (turned a st m en) w2 := by unfold turned; rw [if_neg g9]; exact hE
        have hO3 := hO
        clear hE hO
        by_cases ga : st < m
        · have ga' : (st : Int) < (m : Int) := by omega
          have gb' : ¬ (m : Int) < ((md : Int) + (m : Int) - (st : Int)) := by rw [HEN.out]; omega
          by_cases g3 : lo < st ∧ st < md
          · obtain ⟨g4, g8⟩ := g3
            have g4' : (lo : Int) < (st : Int) := by omega
            have g8' : (st : Int) < (md : Int) := by omega
            go_wp2_with fail
            refine (HIH.out lo st md (turned a st m en) _ (by omega) hE3 (turned_left HM.out HFD.out hlh) g4 g8 (by omega)).mono ?_; rintro e w4 ⟨rfl, b, hE4, hO4, hP4, hS4⟩
            have HP4 := Lib.hid hP4; have HS4 := Lib.hid hS4; clear hP4 hS4
            have HMR := Lib.hid (mrg_pm (turned_right HM.out HFD.out hlh) HP4.out)
            by_cases g5 : md < en ∧ en < hi
            · obtain ⟨g6, g7⟩ := g5
              have g6' : (md : Int) < ((md : Int) + (m : Int) - (st : Int)) := by rw [HEN.out]; omega
              have g7' : ((md : Int) + (m : Int) - (st : Int)) < (hi : Int) := by rw [HEN.out]; omega
              first
              | (exfalso; have := HEN.out; omega)
              | go_wp2_with fail
                have HC := HIH.out md en hi b _ (by omega) hE4 HMR.out g6 g7 hhi
                rw [← HEN.out] at HC
                refine HC.mono ?_; clear HC; rintro e w5 ⟨rfl, c, hE5, hO5, hP5, hS5⟩
                have HRR := Lib.hid (show SoP gO gT gF n far lo hi a W (.returned (.tuple #[])) _ from ⟨rfl, _, hE5, ((hO3.trans hO4).trans hO5), (((turned_pm a HFD.out).trans (HP4.out.mono (Nat.le_refl _) (by omega))).trans (hP5.mono (by omega) (Nat.le_refl _))), (merged (a := a) (by omega) (by omega) (HS4.out.pm_out hP5 (.inl (Nat.le_refl _))) hS5 (ahead_pm HP4.out hP5 (fun x y x1 x2 y1 y2 => turned_ahead HM.out HFD.out x1 x2 y1 y2)))⟩)
                go_wp2_with fail
                go_end0
                exact HRR.out
            · have hS5 : Sd far md hi b := by
                by_cases g6 : md < en
                · exact Sd.of_mrg_r HMR.out (by omega)
                · exact Sd.of_mrg_l HMR.out (by have := HFD.out.h2; have := HFD.out.e2; have := HFD.out.h1; omega)
              have HS5 := Lib.hid hS5; clear hS5
              have HFIN := Lib.hid (show SoP gO gT gF n far lo hi a W (.returned (.tuple #[])) _ from ⟨rfl, _, hE4, (hO3.trans hO4), (turned_pm a HFD.out).trans (HP4.out.mono (Nat.le_refl _) (by omega)), merged (a := a) (by omega) (by omega) HS4.out HS5.out (ahead_pm HP4.out (Pm.refl md hi b) (fun x y x1 x2 y1 y2 => turned_ahead HM.out HFD.out x1 x2 y1 y2))⟩)
              by_cases g6 : md < en
              · have g6' : (md : Int) < ((md : Int) + (m : Int) - (st : Int)) := by rw [HEN.out]; omega
                have g7' : ¬ ((md : Int) + (m : Int) - (st : Int)) < (hi : Int) := by rw [HEN.out]; omega
                first
                | (exfalso; have := HEN.out; omega)
                | go_wp2_with fail
                  go_end0
                  exact HFIN.out
              · have g6' : ¬ (md : Int) < ((md : Int) + (m : Int) - (st : Int)) := by rw [HEN.out]; omega
                first
                | (exfalso; have := HEN.out; omega)
                | go_wp2_with fail
                  go_end0
                  exact HFIN.out
          · have hS4 : Sd far lo md (turned a st m en) := by
              by_cases g4 : lo < st
              · exact Sd.of_mrg_r (turned_left HM.out HFD.out hlh) (by have := HFD.out.h2; have := HFD.out.e2; omega)
              · exact Sd.of_mrg_l (turned_left HM.out HFD.out hlh) (by have := HFD.out.h1; omega)
            have HS4 := Lib.hid hS4; clear hS4
            have HP4 := Lib.hid (Pm.refl lo md (turned a st m en))
            by_cases g4 : lo < st
            · have g4' : (lo : Int) < (st : Int) := by omega
              have g8' : ¬ (st : Int) < (md : Int) := by omega
              have HMR := Lib.hid (mrg_pm (turned_right HM.out HFD.out hlh) HP4.out)
              by_cases g5 : md < en ∧ en < hi
              · obtain ⟨g6, g7⟩ := g5
                have g6' : (md : Int) < ((md : Int) + (m : Int) - (st : Int)) := by rw [HEN.out]; omega
                have g7' : ((md : Int) + (m : Int) - (st : Int)) < (hi : Int) := by rw [HEN.out]; omega
                first
                | (exfalso; have := HEN.out; omega)
                | go_wp2_with fail
                  have HC := HIH.out md en hi (turned a st m en) _ (by omega) hE3 HMR.out g6 g7 hhi
                  rw [← HEN.out] at HC
                  refine HC.mono ?_; clear HC; rintro e w5 ⟨rfl, c, hE5, hO5, hP5, hS5⟩
                  have HRR := Lib.hid (show SoP gO gT gF n far lo hi a W (.returned (.tuple #[])) _ from ⟨rfl, _, hE5, (hO3.trans hO5), (((turned_pm a HFD.out).trans (HP4.out.mono (Nat.le_refl _) (by omega))).trans (hP5.mono (by omega) (Nat.le_refl _))), (merged (a := a) (by omega) (by omega) (HS4.out.pm_out hP5 (.inl (Nat.le_refl _))) hS5 (ahead_pm HP4.out hP5 (fun x y x1 x2 y1 y2 => turned_ahead HM.out HFD.out x1 x2 y1 y2)))⟩)
                  go_wp2_with fail
                  go_end0
                  exact HRR.out
              · have hS5 : Sd far md hi (turned a st m en) := by
                  by_cases g6 : md < en
                  · exact Sd.of_mrg_r HMR.out (by omega)
                  · exact Sd.of_mrg_l HMR.out (by have := HFD.out.h2; have := HFD.out.e2; have := HFD.out.h1; omega)
                have HS5 := Lib.hid hS5; clear hS5
                have HFIN := Lib.hid (show SoP gO gT gF n far lo hi a W (.returned (.tuple #[])) _ from ⟨rfl, _, hE3, hO3, (turned_pm a HFD.out).trans (HP4.out.mono (Nat.le_refl _) (by omega)), merged (a := a) (by omega) (by omega) HS4.out HS5.out (ahead_pm HP4.out (Pm.refl md hi (turned a st m en)) (fun x y x1 x2 y1 y2 => turned_ahead HM.out HFD.out x1 x2 y1 y2))⟩)
                by_cases g6 : md < en
                · have g6' : (md : Int) < ((md : Int) + (m : Int) - (st : Int)) := by rw [HEN.out]; omega
                  have g7' : ¬ ((md : Int) + (m : Int) - (st : Int)) < (hi : Int) := by rw [HEN.out]; omega
                  first
                  | (exfalso; have := HEN.out; omega)
                  | go_wp2_with fail
                    go_end0
                    exact HFIN.out
                · have g6' : ¬ (md : Int) < ((md : Int) + (m : Int) - (st : Int)) := by rw [HEN.out]; omega
                  first
                  | (exfalso; have := HEN.out; omega)
                  | go_wp2_with fail
                    go_end0
                    exact HFIN.out
            · have g4' : ¬ (lo : Int) < (st : Int) := by omega
              have HMR := Lib.hid (mrg_pm (turned_right HM.out HFD.out hlh) HP4.out)
              by_cases g5 : md < en ∧ en < hi
              · obtain ⟨g6, g7⟩ := g5
                have g6' : (md : Int) < ((md : Int) + (m : Int) - (st : Int)) := by rw [HEN.out]; omega
                have g7' : ((md : Int) + (m : Int) - (st : Int)) < (hi : Int) := by rw [HEN.out]; omega
                first
                | (exfalso; have := HEN.out; omega)
                | go_wp2_with fail
                  have HC := HIH.out md en hi (turned a st m en) _ (by omega) hE3 HMR.out g6 g7 hhi
                  rw [← HEN.out] at HC
                  refine HC.mono ?_; clear HC; rintro e w5 ⟨rfl, c, hE5, hO5, hP5, hS5⟩
                  have HRR := Lib.hid (show SoP gO gT gF n far lo hi a W (.returned (.tuple #[])) _ from ⟨rfl, _, hE5, (hO3.trans hO5), (((turned_pm a HFD.out).trans (HP4.out.mono (Nat.le_refl _) (by omega))).trans (hP5.mono (by omega) (Nat.le_refl _))), (merged (a := a) (by omega) (by omega) (HS4.out.pm_out hP5 (.inl (Nat.le_refl _))) hS5 (ahead_pm HP4.out hP5 (fun x y x1 x2 y1 y2 => turned_ahead HM.out HFD.out x1 x2 y1 y2)))⟩)
                  go_wp2_with fail
                  go_end0
                  exact HRR.out
              · have hS5 : Sd far md hi (turned a st m en) := by
                  by_cases g6 : md < en
                  · exact Sd.of_mrg_r HMR.out (by omega)
                  · exact Sd.of_mrg_l HMR.out (by have := HFD.out.h2; have := HFD.out.e2; have := HFD.out.h1; omega)
                have HS5 := Lib.hid hS5; clear hS5
                have HFIN := Lib.hid (show SoP gO gT gF n far lo hi a W (.returned (.tuple #[])) _ from ⟨rfl, _, hE3, hO3, (turned_pm a HFD.out).trans (HP4.out.mono (Nat.le_refl _) (by omega)), merged (a := a) (by omega) (by omega) HS4.out HS5.out (ahead_pm HP4.out (Pm.refl md hi (turned a st m en)) (fun x y x1 x2 y1 y2 => turned_ahead HM.out HFD.out x1 x2 y1 y2))⟩)
                by_cases g6 : md < en
                · have g6' : (md : Int) < ((md : Int) + (m : Int) - (st : Int)) := by rw [HEN.out]; omega
                  have g7' : ¬ ((md : Int) + (m : Int) - (st : Int)) < (hi : Int) := by rw [HEN.out]; omega
                  first
                  | (exfalso; have := HEN.out; omega)
                  | go_wp2_with fail
                    go_end0
                    exact HFIN.out
                · have g6' : ¬ (md : Int) < ((md : Int) + (m : Int) - (st : Int)) := by rw [HEN.out]; omega
                  first
                  | (exfalso; have := HEN.out; omega)
                  | go_wp2_with fail
                    go_end0
                    exact HFIN.out
        · have ga' : ¬ (st : Int) < (m : Int) := by omega
          by_cases g3 : lo < st ∧ st < md
          · obtain ⟨g4, g8⟩ := g3
            have g4' : (lo : Int) < (st : Int) := by omega
            have g8' : (st : Int) < (md : Int) := by omega
            go_wp2_with fail
            refine (HIH.out lo st md (turned a st m en) _ (by omega) hE3 (turned_left HM.out HFD.out hlh) g4 g8 (by omega)).mono ?_; rintro e w4 ⟨rfl, b, hE4, hO4, hP4, hS4⟩
            have HP4 := Lib.hid hP4; have HS4 := Lib.hid hS4; clear hP4 hS4
            have HMR := Lib.hid (mrg_pm (turned_right HM.out HFD.out hlh) HP4.out)
            by_cases g5 : md < en ∧ en < hi
            · obtain ⟨g6, g7⟩ := g5
              have g6' : (md : Int) < ((md : Int) + (m : Int) - (st : Int)) := by rw [HEN.out]; omega
              have g7' : ((md : Int) + (m : Int) - (st : Int)) < (hi : Int) := by rw [HEN.out]; omega
              first
              | (exfalso; have := HEN.out; omega)
              | go_wp2_with fail
                have HC := HIH.out md en hi b _ (by omega) hE4 HMR.out g6 g7 hhi
                rw [← HEN.out] at HC
                refine HC.mono ?_; clear HC; rintro e w5 ⟨rfl, c, hE5, hO5, hP5, hS5⟩
                have HRR := Lib.hid (show SoP gO gT gF n far lo hi a W (.returned (.tuple #[])) _ from ⟨rfl, _, hE5, ((hO3.trans hO4).trans hO5), (((turned_pm a HFD.out).trans (HP4.out.mono (Nat.le_refl _) (by omega))).trans (hP5.mono (by omega) (Nat.le_refl _))), (merged (a := a) (by omega) (by omega) (HS4.out.pm_out hP5 (.inl (Nat.le_refl _))) hS5 (ahead_pm HP4.out hP5 (fun x y x1 x2 y1 y2 => turned_ahead HM.out HFD.out x1 x2 y1 y2)))⟩)
                go_wp2_with fail
                go_end0
                exact HRR.out
            · have hS5 : Sd far md hi b := by
                by_cases g6 : md < en
                · exact Sd.of_mrg_r HMR.out (by omega)
                · exact Sd.of_mrg_l HMR.out (by have := HFD.out.h2; have := HFD.out.e2; have := HFD.out.h1; omega)
              have HS5 := Lib.hid hS5; clear hS5
              have HFIN := Lib.hid (show SoP gO gT gF n far lo hi a W (.returned (.tuple #[])) _ from ⟨rfl, _, hE4, (hO3.trans hO4), (turned_pm a HFD.out).trans (HP4.out.mono (Nat.le_refl _) (by omega)), merged (a := a) (by omega) (by omega) HS4.out HS5.out (ahead_pm HP4.out (Pm.refl md hi b) (fun x y x1 x2 y1 y2 => turned_ahead HM.out HFD.out x1 x2 y1 y2))⟩)
              by_cases g6 : md < en
              · have g6' : (md : Int) < ((md : Int) + (m : Int) - (st : Int)) := by rw [HEN.out]; omega
                have g7' : ¬ ((md : Int) + (m : Int) - (st : Int)) < (hi : Int) := by rw [HEN.out]; omega
                first
                | (exfalso; have := HEN.out; omega)
                | go_wp2_with fail
                  go_end0
                  exact HFIN.out
              · have g6' : ¬ (md : Int) < ((md : Int) + (m : Int) - (st : Int)) := by rw [HEN.out]; omega
                first
                | (exfalso; have := HEN.out; omega)
                | go_wp2_with fail
                  go_end0
                  exact HFIN.out
          · have hS4 : Sd far lo md (turned a st m en) := by
              by_cases g4 : lo < st
              · exact Sd.of_mrg_r (turned_left HM.out HFD.out hlh) (by have := HFD.out.h2; have := HFD.out.e2; omega)
              · exact Sd.of_mrg_l (turned_left HM.out HFD.out hlh) (by have := HFD.out.h1; omega)
            have HS4 := Lib.hid hS4; clear hS4
            have HP4 := Lib.hid (Pm.refl lo md (turned a st m en))
            by_cases g4 : lo < st
            · have g4' : (lo : Int) < (st : Int) := by omega
              have g8' : ¬ (st : Int) < (md : Int) := by omega
              have HMR := Lib.hid (mrg_pm (turned_right HM.out HFD.out hlh) HP4.out)
              by_cases g5 : md < en ∧ en < hi
              · obtain ⟨g6, g7⟩ := g5
                have g6' : (md : Int) < ((md : Int) + (m : Int) - (st : Int)) := by rw [HEN.out]; omega
                have g7' : ((md : Int) + (m : Int) - (st : Int)) < (hi : Int) := by rw [HEN.out]; omega
                first
                | (exfalso; have := HEN.out; omega)
                | go_wp2_with fail
                  have HC := HIH.out md en hi (turned a st m en) _ (by omega) hE3 HMR.out g6 g7 hhi
                  rw [← HEN.out] at HC
                  refine HC.mono ?_; clear HC; rintro e w5 ⟨rfl, c, hE5, hO5, hP5, hS5⟩
                  have HRR := Lib.hid (show SoP gO gT gF n far lo hi a W (.returned (.tuple #[])) _ from ⟨rfl, _, hE5, (hO3.trans hO5), (((turned_pm a HFD.out).trans (HP4.out.mono (Nat.le_refl _) (by omega))).trans (hP5.mono (by omega) (Nat.le_refl _))), (merged (a := a) (by omega) (by omega) (HS4.out.pm_out hP5 (.inl (Nat.le_refl _))) hS5 (ahead_pm HP4.out hP5 (fun x y x1 x2 y1 y2 => turned_ahead HM.out HFD.out x1 x2 y1 y2)))⟩)
                  go_wp2_with fail
                  go_end0
                  exact HRR.out
              · have hS5 : Sd far md hi (turned a st m en) := by
                  by_cases g6 : md < en
                  · exact Sd.of_mrg_r HMR.out (by omega)
                  · exact Sd.of_mrg_l HMR.out (by have := HFD.out.h2; have := HFD.out.e2; have := HFD.out.h1; omega)
                have HS5 := Lib.hid hS5; clear hS5
                have HFIN := Lib.hid (show SoP gO gT gF n far lo hi a W (.returned (.tuple #[])) _ from ⟨rfl, _, hE3, hO3, (turned_pm a HFD.out).trans (HP4.out.mono (Nat.le_refl _) (by omega)), merged (a := a) (by omega) (by omega) HS4.out HS5.out (ahead_pm HP4.out (Pm.refl md hi (turned a st m en)) (fun x y x1 x2 y1 y2 => turned_ahead HM.out HFD.out x1 x2 y1 y2))⟩)
                by_cases g6 : md < en
                · have g6' : (md : Int) < ((md : Int) + (m : Int) - (st : Int)) := by rw [HEN.out]; omega
                  have g7' : ¬ ((md : Int) + (m : Int) - (st : Int)) < (hi : Int) := by rw [HEN.out]; omega
                  first
                  | (exfalso; have := HEN.out; omega)
                  | go_wp2_with fail
                    go_end0
                    exact HFIN.out
                · have g6' : ¬ (md : Int) < ((md : Int) + (m : Int) - (st : Int)) := by rw [HEN.out]; omega
                  first
                  | (exfalso; have := HEN.out; omega)
                  | go_wp2_with fail
                    go_end0
                    exact HFIN.out
            · have g4' : ¬ (lo : Int) < (st : Int) := by omega
              have HMR := Lib.hid (mrg_pm (turned_right HM.out HFD.out hlh) HP4.out)
              by_cases g5 : md < en ∧ en < hi
              · obtain ⟨g6, g7⟩ := g5
                have g6' : (md : Int) < ((md : Int) + (m : Int) - (st : Int)) := by rw [HEN.out]; omega
                have g7' : ((md : Int) + (m : Int) - (st : Int)) < (hi : Int) := by rw [HEN.out]; omega
                first
                | (exfalso; have := HEN.out; omega)
                | go_wp2_with fail
                  have HC := HIH.out md en hi (turned a st m en) _ (by omega) hE3 HMR.out g6 g7 hhi
                  rw [← HEN.out] at HC
                  refine HC.mono ?_; clear HC; rintro e w5 ⟨rfl, c, hE5, hO5, hP5, hS5⟩
                  have HRR := Lib.hid (show SoP gO gT gF n far lo hi a W (.returned (.tuple #[])) _ from ⟨rfl, _, hE5, (hO3.trans hO5), (((turned_pm a HFD.out).trans (HP4.out.mono (Nat.le_refl _) (by omega))).trans (hP5.mono (by omega) (Nat.le_refl _))), (merged (a := a) (by omega) (by omega) (HS4.out.pm_out hP5 (.inl (Nat.le_refl _))) hS5 (ahead_pm HP4.out hP5 (fun x y x1 x2 y1 y2 => turned_ahead HM.out HFD.out x1 x2 y1 y2)))⟩)
                  go_wp2_with fail
                  go_end0
                  exact HRR.out
              · have hS5 : Sd far md hi (turned a st m en) := by
                  by_cases g6 : md < en
                  · exact Sd.of_mrg_r HMR.out (by omega)
                  · exact Sd.of_mrg_l HMR.out (by have := HFD.out.h2; have := HFD.out.e2; have := HFD.out.h1; omega)
                have HS5 := Lib.hid hS5; clear hS5
                have HFIN := Lib.hid (show SoP gO gT gF n far lo hi a W (.returned (.tuple #[])) _ from ⟨rfl, _, hE3, hO3, (turned_pm a HFD.out).trans (HP4.out.mono (Nat.le_refl _) (by omega)), merged (a := a) (by omega) (by omega) HS4.out HS5.out (ahead_pm HP4.out (Pm.refl md hi (turned a st m en)) (fun x y x1 x2 y1 y2 => turned_ahead HM.out HFD.out x1 x2 y1 y2))⟩)
                by_cases g6 : md < en
                · have g6' : (md : Int) < ((md : Int) + (m : Int) - (st : Int)) := by rw [HEN.out]; omega
                  have g7' : ¬ ((md : Int) + (m : Int) - (st : Int)) < (hi : Int) := by rw [HEN.out]; omega
                  first
                  | (exfalso; have := HEN.out; omega)
                  | go_wp2_with fail
                    go_end0
                    exact HFIN.out
                · have g6' : ¬ (md : Int) < ((md : Int) + (m : Int) - (st : Int)) := by rw [HEN.out]; omega
                  first
                  | (exfalso; have := HEN.out; omega)
                  | go_wp2_with fail
                    go_end0
                    exact HFIN.out
set_option maxRecDepth 1000000 in
set_option maxHeartbeats 51200000 in
theorem sym_lo (gO gT gF n : Nat) (far : Nat → Int) (lo m hi md : Nat) (a : Fn_) (W : World) (h : En gO gT gF n far a W) (h1 : gO ≠ gT) (h2 : gO ≠ gF) (hn : n ≤ 4096) (hM : Mrg far lo m hi a) (hhi : hi ≤ n) (hlm : lo + 1 < m) (hmh : m + 1 < hi) (hmd : md = (lo + hi) / 2) (hg : ¬ md < m)
    (IH : ∀ lo' m' hi' a' W', hi' - lo' < hi - lo → En gO gT gF n far a' W' → Mrg far lo' m' hi' a' → lo' < m' → m' < hi' → hi' ≤ n → Calls Try.prog 102 #[.slice (some ⟨gO, 0, none⟩) n n, .int .i64 (lo' : Int), .int .i64 (m' : Int), .int .i64 (hi' : Int), cmpF gT] W' (SoP gO gT gF n far lo' hi' a' W')) :
    Calls Try.prog 102 #[.slice (some ⟨gO, 0, none⟩) n n, .int .i64 (lo : Int), .int .i64 (m : Int), .int .i64 (hi : Int), cmpF gT] W (SoP gO gT gF n far lo hi a W) := by
  have hlh : lo < hi := by omega
  have hmdI : ((lo : Int) + (hi : Int)) / 2 = (md : Int) := by omega
  have q0 : ((m : Int) - (lo : Int) == 1) = false := beq_eq_false_iff_ne.2 (by omega)
  have q2 : ((hi : Int) - (m : Int) == 1) = false := beq_eq_false_iff_ne.2 (by omega)
  have q3 : ¬ (md : Int) < (m : Int) := by omega
  have hmd1 : 2 * md ≤ lo + hi := by omega
  have hmd2 : lo + hi < 2 * md + 2 := by omega
  have HMD := Lib.hid hmd
  have HM := Lib.hid hM; have HIH := Lib.hid IH
  clear hM IH hmd
  go_enter Try.func102, Try.ntmps102
  go_wp2_with fail
  go_loopw [20, 21] (fun v u wr => ∃ st r : Nat, v = .int .i64 st ∧ u = .int .i64 r ∧ lo ≤ st ∧ st ≤ r ∧ r ≤ m ∧ (∀ q, lo ≤ q → q < st → Lt far (a q) (a (md + m - 1 - q))) ∧ (∀ q, r ≤ q → q < m → Lt far (a (md + m - 1 - q)) (a q)) ∧ En gO gT gF n far a wr ∧ Only gO W wr) (fun v u _ => (intOf u).toNat - (intOf v).toNat)
  case atStart => exact ⟨lo, m, by first | rfl | rw [show ((lo : Nat) : Int) = (md : Int) + (m : Int) - (hi : Int) by omega], rfl, Nat.le_refl _, by omega, Nat.le_refl _, fun q q1 q2 => by omega, fun q q1 q2 => by omega, h, Only.refl _ _⟩
  case round =>
    clear h
    obtain ⟨st, r, rfl, rfl, g1, hst1, hst2, hA, hB, hE, hO⟩ := hrel
    have HA := Lib.hid hA; have HB := Lib.hid hB
    clear hA hB
    by_cases hlt : st < r
    · have hlt' : (st : Int) < (r : Int) := by omega
      obtain ⟨c, hc⟩ : ∃ c : Nat, ((st : Int) + (r : Int)) / 2 = (c : Int) := ⟨(st + r) / 2, by omega⟩
      have hc1 : st ≤ c := by omega
      have hc2 : c < r := by omega
      have hcr : c < m := by omega
      have hcs : lo ≤ c := by omega
      go_upto_region 35 with fail
      try rw [hc]
      clear hc
      have hpc : md + m - 1 - c < n := by omega
      have hpI : (md : Int) + (m : Int) - 1 - (c : Int) = ((md + m - 1 - c : Nat) : Int) := by omega
      have b1 := hE.b (md + m - 1 - c) hpc; have b2 := hE.b c (by omega)
      have c1 : wr.cell? ⟨gO, md + m - 1 - c, none⟩ = some (.int .i64 (a (md + m - 1 - c) : Nat)) := hE.o.cell (i := md + m - 1 - c) hpc
      have c2 : wr.cell? ⟨gO, c, none⟩ = some (.int .i64 (a c : Nat)) := hE.o.cell (i := c) (by omega)
      have hcm := fun q => cmp_any gO gT gF n far a (wr.drewN q) (hE.drewN q) hn (a (md + m - 1 - c)) (a c) b1 b2
      have hY := Lib.hid (fun (hf : far (a (md + m - 1 - c)) < far (a c)) q (q1 : c ≤ q) (q2 : q < m) => (show Lt far (a (md + m - 1 - q)) (a q) from bs3_hi (p := md + m - 1) HM.out hf (by omega) q1 (by omega) (by omega) (by omega)))
      have hN := Lib.hid (fun (hf : ¬ far (a (md + m - 1 - c)) < far (a c)) q (q1 : lo ≤ q) (q2 : q < c + 1) => (show Lt far (a q) (a (md + m - 1 - q)) from bs3_lo (p := md + m - 1) HM.out hf (by omega) (show q ≤ c by omega) (by omega) (by omega) (by omega)))
      generalize md + m - 1 - c = pc at *
      have t1 : (c : Int) < (n : Int) := by omega
      have t2 : (pc : Int) < (n : Int) := by omega
      have t3 : (0 : Int) ≤ (pc : Int) := by omega
      have t4 : IntKind.i64.wrap ((md : Int) + (m : Int) - 1 - (c : Int)) = (pc : Int) := by rw [hpI]; exact IntWalk.i64_in _ (by omega)
      by_cases hf : far (a pc) < far (a c)
      · have f0 := lt0_yes hf
        have HB2 := Lib.hid (hY.out hf)
        clear hY hN
        generalize far (a pc) = fi at *
        generalize far (a c) = fk at *
        generalize cmpV fi fk = cv at *
        go_quiet ((go_at_call 75; exact Calls.quiet_of (hcm _)))
        go_wp2_with fail
        go_roundw
        case rel => exact ⟨st, c, rfl, rfl, g1, hc1, by omega, HA.out, HB2.out, hE.drewN _, only_drewN hO _⟩
        case measure => simp [intOf]; omega
      · have f0 := lt0_no hf
        have HA2 := Lib.hid (hN.out hf)
        clear hY hN
        generalize far (a pc) = fi at *
        generalize far (a c) = fk at *
        generalize cmpV fi fk = cv at *
        go_quiet ((go_at_call 75; exact Calls.quiet_of (hcm _)))
        go_wp2_with fail
        go_roundw
        case rel => exact ⟨c + 1, r, by go_num, rfl, by omega, by omega, hst2, HA2.out, HB.out, hE.drewN _, only_drewN hO _⟩
        case measure => simp [intOf]; omega
    · obtain rfl : st = r := by omega
      have hlt' : ¬ (st : Int) < (st : Int) := by omega
      have hFD : Fnd_ far lo m hi md st (md + m - st) a := bs3_end HMD.out (by omega) (by omega) (show (m > md → lo = md + m - hi ∧ m = md) ∧ (¬ m > md → lo = lo ∧ m = m) from by omega) g1 hst2 HA.out HB.out
      have hel : st ≤ md + m := by omega
      obtain ⟨en, hen⟩ : ∃ en, en = md + m - st := ⟨_, rfl⟩
      rw [← hen] at hFD
      have HFD := Lib.hid hFD; clear hFD
      have henI : (md : Int) + (m : Int) - (st : Int) = (en : Int) := by omega
      have hfd1 := HFD.out.h1; have hfd2 := HFD.out.h2
      obtain ⟨w2, rfl⟩ : ∃ w2 : World, w2 = wr := ⟨_, rfl⟩
      have HEN := Lib.hid henI
      clear henI hen HA HB HMD
      by_cases g9 : st < m ∧ m < en
      · obtain ⟨ga, gb⟩ := g9
        have ga' : (st : Int) < (m : Int) := by omega
        have gb' : (m : Int) < ((md : Int) + (m : Int) - (st : Int)) := by rw [HEN.out]; omega
        go_wp2_with fail
        have HC := rot_any gO gT gF n far st m en a w2 hE h1 h2 hn ga gb (by omega)
        rw [← HEN.out] at HC
        refine HC.mono ?_; clear HC; rintro e w3 ⟨rfl, hE3, hO3'⟩
        have hE3 : En gO gT gF n far (turned a st m en) w3 := by unfold turned; rw [if_pos ⟨ga, gb⟩]; exact hE3
        have hO3 := hO.trans hO3'
        clear hE hO hO3'
        by_cases g3 : lo < st ∧ st < md
        · obtain ⟨g4, g8⟩ := g3
          have g4' : (lo : Int) < (st : Int) := by omega
          have g8' : (st : Int) < (md : Int) := by omega
          go_wp2_with fail
          refine (HIH.out lo st md (turned a st m en) _ (by omega) hE3 (turned_left HM.out HFD.out hlh) g4 g8 (by omega)).mono ?_; rintro e w4 ⟨rfl, b, hE4, hO4, hP4, hS4⟩
          have HP4 := Lib.hid hP4; have HS4 := Lib.hid hS4; clear hP4 hS4
          have HMR := Lib.hid (mrg_pm (turned_right HM.out HFD.out hlh) HP4.out)
          by_cases g5 : md < en ∧ en < hi
          · obtain ⟨g6, g7⟩ := g5
            have g6' : (md : Int) < ((md : Int) + (m : Int) - (st : Int)) := by rw [HEN.out]; omega
            have g7' : ((md : Int) + (m : Int) - (st : Int)) < (hi : Int) := by rw [HEN.out]; omega
            first
            | (exfalso; have := HEN.out; omega)
            | go_wp2_with fail
              have HC := HIH.out md en hi b _ (by omega) hE4 HMR.out g6 g7 hhi
              rw [← HEN.out] at HC
              refine HC.mono ?_; clear HC; rintro e w5 ⟨rfl, c, hE5, hO5, hP5, hS5⟩
              have HRR := Lib.hid (show SoP gO gT gF n far lo hi a W (.returned (.tuple #[])) _ from ⟨rfl, _, hE5, ((hO3.trans hO4).trans hO5), (((turned_pm a HFD.out).trans (HP4.out.mono (Nat.le_refl _) (by omega))).trans (hP5.mono (by omega) (Nat.le_refl _))), (merged (a := a) (by omega) (by omega) (HS4.out.pm_out hP5 (.inl (Nat.le_refl _))) hS5 (ahead_pm HP4.out hP5 (fun x y x1 x2 y1 y2 => turned_ahead HM.out HFD.out x1 x2 y1 y2)))⟩)
              go_wp2_with fail
              go_end0
              exact HRR.out
          · have hS5 : Sd far md hi b := by
              by_cases g6 : md < en
              · exact Sd.of_mrg_r HMR.out (by omega)
              · exact Sd.of_mrg_l HMR.out (by have := HFD.out.h2; have := HFD.out.e2; have := HFD.out.h1; omega)
            have HS5 := Lib.hid hS5; clear hS5
            have HFIN := Lib.hid (show SoP gO gT gF n far lo hi a W (.returned (.tuple #[])) _ from ⟨rfl, _, hE4, (hO3.trans hO4), (turned_pm a HFD.out).trans (HP4.out.mono (Nat.le_refl _) (by omega)), merged (a := a) (by omega) (by omega) HS4.out HS5.out (ahead_pm HP4.out (Pm.refl md hi b) (fun x y x1 x2 y1 y2 => turned_ahead HM.out HFD.out x1 x2 y1 y2))⟩)
            by_cases g6 : md < en
            · have g6' : (md : Int) < ((md : Int) + (m : Int) - (st : Int)) := by rw [HEN.out]; omega
              have g7' : ¬ ((md : Int) + (m : Int) - (st : Int)) < (hi : Int) := by rw [HEN.out]; omega
              first
              | (exfalso; have := HEN.out; omega)
              | go_wp2_with fail
                go_end0
                exact HFIN.out
            · have g6' : ¬ (md : Int) < ((md : Int) + (m : Int) - (st : Int)) := by rw [HEN.out]; omega
              first
              | (exfalso; have := HEN.out; omega)
              | go_wp2_with fail
                go_end0
                exact HFIN.out
        · have hS4 : Sd far lo md (turned a st m en) := by
            by_cases g4 : lo < st
            · exact Sd.of_mrg_r (turned_left HM.out HFD.out hlh) (by have := HFD.out.h2; have := HFD.out.e2; omega)
            · exact Sd.of_mrg_l (turned_left HM.out HFD.out hlh) (by have := HFD.out.h1; omega)
          have HS4 := Lib.hid hS4; clear hS4
          have HP4 := Lib.hid (Pm.refl lo md (turned a st m en))
          by_cases g4 : lo < st
          · have g4' : (lo : Int) < (st : Int) := by omega
            have g8' : ¬ (st : Int) < (md : Int) := by omega
            have HMR := Lib.hid (mrg_pm (turned_right HM.out HFD.out hlh) HP4.out)
            by_cases g5 : md < en ∧ en < hi
            · obtain ⟨g6, g7⟩ := g5
              have g6' : (md : Int) < ((md : Int) + (m : Int) - (st : Int)) := by rw [HEN.out]; omega
              have g7' : ((md : Int) + (m : Int) - (st : Int)) < (hi : Int) := by rw [HEN.out]; omega
              first
              | (exfalso; have := HEN.out; omega)
              | go_wp2_with fail
                have HC := HIH.out md en hi (turned a st m en) _ (by omega) hE3 HMR.out g6 g7 hhi
                rw [← HEN.out] at HC
                refine HC.mono ?_; clear HC; rintro e w5 ⟨rfl, c, hE5, hO5, hP5, hS5⟩
                have HRR := Lib.hid (show SoP gO gT gF n far lo hi a W (.returned (.tuple #[])) _ from ⟨rfl, _, hE5, (hO3.trans hO5), (((turned_pm a HFD.out).trans (HP4.out.mono (Nat.le_refl _) (by omega))).trans (hP5.mono (by omega) (Nat.le_refl _))), (merged (a := a) (by omega) (by omega) (HS4.out.pm_out hP5 (.inl (Nat.le_refl _))) hS5 (ahead_pm HP4.out hP5 (fun x y x1 x2 y1 y2 => turned_ahead HM.out HFD.out x1 x2 y1 y2)))⟩)
                go_wp2_with fail
                go_end0
                exact HRR.out
            · have hS5 : Sd far md hi (turned a st m en) := by
                by_cases g6 : md < en
                · exact Sd.of_mrg_r HMR.out (by omega)
                · exact Sd.of_mrg_l HMR.out (by have := HFD.out.h2; have := HFD.out.e2; have := HFD.out.h1; omega)
              have HS5 := Lib.hid hS5; clear hS5
              have HFIN := Lib.hid (show SoP gO gT gF n far lo hi a W (.returned (.tuple #[])) _ from ⟨rfl, _, hE3, hO3, (turned_pm a HFD.out).trans (HP4.out.mono (Nat.le_refl _) (by omega)), merged (a := a) (by omega) (by omega) HS4.out HS5.out (ahead_pm HP4.out (Pm.refl md hi (turned a st m en)) (fun x y x1 x2 y1 y2 => turned_ahead HM.out HFD.out x1 x2 y1 y2))⟩)
              by_cases g6 : md < en
              · have g6' : (md : Int) < ((md : Int) + (m : Int) - (st : Int)) := by rw [HEN.out]; omega
                have g7' : ¬ ((md : Int) + (m : Int) - (st : Int)) < (hi : Int) := by rw [HEN.out]; omega
                first
                | (exfalso; have := HEN.out; omega)
                | go_wp2_with fail
                  go_end0
                  exact HFIN.out
              · have g6' : ¬ (md : Int) < ((md : Int) + (m : Int) - (st : Int)) := by rw [HEN.out]; omega
                first
                | (exfalso; have := HEN.out; omega)
                | go_wp2_with fail
                  go_end0
                  exact HFIN.out
          · have g4' : ¬ (lo : Int) < (st : Int) := by omega
            have HMR := Lib.hid (mrg_pm (turned_right HM.out HFD.out hlh) HP4.out)
            by_cases g5 : md < en ∧ en < hi
            · obtain ⟨g6, g7⟩ := g5
              have g6' : (md : Int) < ((md : Int) + (m : Int) - (st : Int)) := by rw [HEN.out]; omega
              have g7' : ((md : Int) + (m : Int) - (st : Int)) < (hi : Int) := by rw [HEN.out]; omega
              first
              | (exfalso; have := HEN.out; omega)
              | go_wp2_with fail
                have HC := HIH.out md en hi (turned a st m en) _ (by omega) hE3 HMR.out g6 g7 hhi
                rw [← HEN.out] at HC
                refine HC.mono ?_; clear HC; rintro e w5 ⟨rfl, c, hE5, hO5, hP5, hS5⟩
                have HRR := Lib.hid (show SoP gO gT gF n far lo hi a W (.returned (.tuple #[])) _ from ⟨rfl, _, hE5, (hO3.trans hO5), (((turned_pm a HFD.out).trans (HP4.out.mono (Nat.le_refl _) (by omega))).trans (hP5.mono (by omega) (Nat.le_refl _))), (merged (a := a) (by omega) (by omega) (HS4.out.pm_out hP5 (.inl (Nat.le_refl _))) hS5 (ahead_pm HP4.out hP5 (fun x y x1 x2 y1 y2 => turned_ahead HM.out HFD.out x1 x2 y1 y2)))⟩)
                go_wp2_with fail
                go_end0
                exact HRR.out
            · have hS5 : Sd far md hi (turned a st m en) := by
                by_cases g6 : md < en
                · exact Sd.of_mrg_r HMR.out (by omega)
                · exact Sd.of_mrg_l HMR.out (by have := HFD.out.h2; have := HFD.out.e2; have := HFD.out.h1; omega)
              have HS5 := Lib.hid hS5; clear hS5
              have HFIN := Lib.hid (show SoP gO gT gF n far lo hi a W (.returned (.tuple #[])) _ from ⟨rfl, _, hE3, hO3, (turned_pm a HFD.out).trans (HP4.out.mono (Nat.le_refl _) (by omega)), merged (a := a) (by omega) (by omega) HS4.out HS5.out (ahead_pm HP4.out (Pm.refl md hi (turned a st m en)) (fun x y x1 x2 y1 y2 => turned_ahead HM.out HFD.out x1 x2 y1 y2))⟩)
              by_cases g6 : md < en
              · have g6' : (md : Int) < ((md : Int) + (m : Int) - (st : Int)) := by rw [HEN.out]; omega
                have g7' : ¬ ((md : Int) + (m : Int) - (st : Int)) < (hi : Int) := by rw [HEN.out]; omega
                first
                | (exfalso; have := HEN.out; omega)
                | go_wp2_with fail
                  go_end0
                  exact HFIN.out
              · have g6' : ¬ (md : Int) < ((md : Int) + (m : Int) - (st : Int)) := by rw [HEN.out]; omega
                first
                | (exfalso; have := HEN.out; omega)
                | go_wp2_with fail
                  go_end0
                  exact HFIN.out
      · have hE3 : En gO gT gF n far (turned a st m en) w2 := by unfold turned; rw [if_neg g9]; exact hE
        have hO3 := hO
        clear hE hO
        by_cases ga : st < m
        · have ga' : (st : Int) < (m : Int) := by omega
          have gb' : ¬ (m : Int) < ((md : Int) + (m : Int) - (st : Int)) := by rw [HEN.out]; omega
          by_cases g3 : lo < st ∧ st < md
          · obtain ⟨g4, g8⟩ := g3
            have g4' : (lo : Int) < (st : Int) := by omega
            have g8' : (st : Int) < (md : Int) := by omega
            go_wp2_with fail
            refine (HIH.out lo st md (turned a st m en) _ (by omega) hE3 (turned_left HM.out HFD.out hlh) g4 g8 (by omega)).mono ?_; rintro e w4 ⟨rfl, b, hE4, hO4, hP4, hS4⟩
            have HP4 := Lib.hid hP4; have HS4 := Lib.hid hS4; clear hP4 hS4
            have HMR := Lib.hid (mrg_pm (turned_right HM.out HFD.out hlh) HP4.out)
            by_cases g5 : md < en ∧ en < hi
            · obtain ⟨g6, g7⟩ := g5
              have g6' : (md : Int) < ((md : Int) + (m : Int) - (st : Int)) := by rw [HEN.out]; omega
              have g7' : ((md : Int) + (m : Int) - (st : Int)) < (hi : Int) := by rw [HEN.out]; omega
              first
              | (exfalso; have := HEN.out; omega)
              | go_wp2_with fail
                have HC := HIH.out md en hi b _ (by omega) hE4 HMR.out g6 g7 hhi
                rw [← HEN.out] at HC
                refine HC.mono ?_; clear HC; rintro e w5 ⟨rfl, c, hE5, hO5, hP5, hS5⟩
                have HRR := Lib.hid (show SoP gO gT gF n far lo hi a W (.returned (.tuple #[])) _ from ⟨rfl, _, hE5, ((hO3.trans hO4).trans hO5), (((turned_pm a HFD.out).trans (HP4.out.mono (Nat.le_refl _) (by omega))).trans (hP5.mono (by omega) (Nat.le_refl _))), (merged (a := a) (by omega) (by omega) (HS4.out.pm_out hP5 (.inl (Nat.le_refl _))) hS5 (ahead_pm HP4.out hP5 (fun x y x1 x2 y1 y2 => turned_ahead HM.out HFD.out x1 x2 y1 y2)))⟩)
                go_wp2_with fail
                go_end0
                exact HRR.out
            · have hS5 : Sd far md hi b := by
                by_cases g6 : md < en
                · exact Sd.of_mrg_r HMR.out (by omega)
                · exact Sd.of_mrg_l HMR.out (by have := HFD.out.h2; have := HFD.out.e2; have := HFD.out.h1; omega)
              have HS5 := Lib.hid hS5; clear hS5
              have HFIN := Lib.hid (show SoP gO gT gF n far lo hi a W (.returned (.tuple #[])) _ from ⟨rfl, _, hE4, (hO3.trans hO4), (turned_pm a HFD.out).trans (HP4.out.mono (Nat.le_refl _) (by omega)), merged (a := a) (by omega) (by omega) HS4.out HS5.out (ahead_pm HP4.out (Pm.refl md hi b) (fun x y x1 x2 y1 y2 => turned_ahead HM.out HFD.out x1 x2 y1 y2))⟩)
              by_cases g6 : md < en
              · have g6' : (md : Int) < ((md : Int) + (m : Int) - (st : Int)) := by rw [HEN.out]; omega
                have g7' : ¬ ((md : Int) + (m : Int) - (st : Int)) < (hi : Int) := by rw [HEN.out]; omega
                first
                | (exfalso; have := HEN.out; omega)
                | go_wp2_with fail
                  go_end0
                  exact HFIN.out
              · have g6' : ¬ (md : Int) < ((md : Int) + (m : Int) - (st : Int)) := by rw [HEN.out]; omega
                first
                | (exfalso; have := HEN.out; omega)
                | go_wp2_with fail
                  go_end0
                  exact HFIN.out
          · have hS4 : Sd far lo md (turned a st m en) := by
              by_cases g4 : lo < st
              · exact Sd.of_mrg_r (turned_left HM.out HFD.out hlh) (by have := HFD.out.h2; have := HFD.out.e2; omega)
              · exact Sd.of_mrg_l (turned_left HM.out HFD.out hlh) (by have := HFD.out.h1; omega)
            have HS4 := Lib.hid hS4; clear hS4
            have HP4 := Lib.hid (Pm.refl lo md (turned a st m en))
            by_cases g4 : lo < st
            · have g4' : (lo : Int) < (st : Int) := by omega
              have g8' : ¬ (st : Int) < (md : Int) := by omega
              have HMR := Lib.hid (mrg_pm (turned_right HM.out HFD.out hlh) HP4.out)
              by_cases g5 : md < en ∧ en < hi
              · obtain ⟨g6, g7⟩ := g5
                have g6' : (md : Int) < ((md : Int) + (m : Int) - (st : Int)) := by rw [HEN.out]; omega
                have g7' : ((md : Int) + (m : Int) - (st : Int)) < (hi : Int) := by rw [HEN.out]; omega
                first
                | (exfalso; have := HEN.out; omega)
                | go_wp2_with fail
                  have HC := HIH.out md en hi (turned a st m en) _ (by omega) hE3 HMR.out g6 g7 hhi
                  rw [← HEN.out] at HC
                  refine HC.mono ?_; clear HC; rintro e w5 ⟨rfl, c, hE5, hO5, hP5, hS5⟩
                  have HRR := Lib.hid (show SoP gO gT gF n far lo hi a W (.returned (.tuple #[])) _ from ⟨rfl, _, hE5, (hO3.trans hO5), (((turned_pm a HFD.out).trans (HP4.out.mono (Nat.le_refl _) (by omega))).trans (hP5.mono (by omega) (Nat.le_refl _))), (merged (a := a) (by omega) (by omega) (HS4.out.pm_out hP5 (.inl (Nat.le_refl _))) hS5 (ahead_pm HP4.out hP5 (fun x y x1 x2 y1 y2 => turned_ahead HM.out HFD.out x1 x2 y1 y2)))⟩)
                  go_wp2_with fail
                  go_end0
                  exact HRR.out
              · have hS5 : Sd far md hi (turned a st m en) := by
                  by_cases g6 : md < en
                  · exact Sd.of_mrg_r HMR.out (by omega)
                  · exact Sd.of_mrg_l HMR.out (by have := HFD.out.h2; have := HFD.out.e2; have := HFD.out.h1; omega)
                have HS5 := Lib.hid hS5; clear hS5
                have HFIN := Lib.hid (show SoP gO gT gF n far lo hi a W (.returned (.tuple #[])) _ from ⟨rfl, _, hE3, hO3, (turned_pm a HFD.out).trans (HP4.out.mono (Nat.le_refl _) (by omega)), merged (a := a) (by omega) (by omega) HS4.out HS5.out (ahead_pm HP4.out (Pm.refl md hi (turned a st m en)) (fun x y x1 x2 y1 y2 => turned_ahead HM.out HFD.out x1 x2 y1 y2))⟩)
                by_cases g6 : md < en
                · have g6' : (md : Int) < ((md : Int) + (m : Int) - (st : Int)) := by rw [HEN.out]; omega
                  have g7' : ¬ ((md : Int) + (m : Int) - (st : Int)) < (hi : Int) := by rw [HEN.out]; omega
                  first
                  | (exfalso; have := HEN.out; omega)
                  | go_wp2_with fail
                    go_end0
                    exact HFIN.out
                · have g6' : ¬ (md : Int) < ((md : Int) + (m : Int) - (st : Int)) := by rw [HEN.out]; omega
                  first
                  | (exfalso; have := HEN.out; omega)
                  | go_wp2_with fail
                    go_end0
                    exact HFIN.out
            · have g4' : ¬ (lo : Int) < (st : Int) := by omega
              have HMR := Lib.hid (mrg_pm (turned_right HM.out HFD.out hlh) HP4.out)
              by_cases g5 : md < en ∧ en < hi
              · obtain ⟨g6, g7⟩ := g5
                have g6' : (md : Int) < ((md : Int) + (m : Int) - (st : Int)) := by rw [HEN.out]; omega
                have g7' : ((md : Int) + (m : Int) - (st : Int)) < (hi : Int) := by rw [HEN.out]; omega
                first
                | (exfalso; have := HEN.out; omega)
                | go_wp2_with fail
                  have HC := HIH.out md en hi (turned a st m en) _ (by omega) hE3 HMR.out g6 g7 hhi
                  rw [← HEN.out] at HC
                  refine HC.mono ?_; clear HC; rintro e w5 ⟨rfl, c, hE5, hO5, hP5, hS5⟩
                  have HRR := Lib.hid (show SoP gO gT gF n far lo hi a W (.returned (.tuple #[])) _ from ⟨rfl, _, hE5, (hO3.trans hO5), (((turned_pm a HFD.out).trans (HP4.out.mono (Nat.le_refl _) (by omega))).trans (hP5.mono (by omega) (Nat.le_refl _))), (merged (a := a) (by omega) (by omega) (HS4.out.pm_out hP5 (.inl (Nat.le_refl _))) hS5 (ahead_pm HP4.out hP5 (fun x y x1 x2 y1 y2 => turned_ahead HM.out HFD.out x1 x2 y1 y2)))⟩)
                  go_wp2_with fail
                  go_end0
                  exact HRR.out
              · have hS5 : Sd far md hi (turned a st m en) := by
                  by_cases g6 : md < en
                  · exact Sd.of_mrg_r HMR.out (by omega)
                  · exact Sd.of_mrg_l HMR.out (by have := HFD.out.h2; have := HFD.out.e2; have := HFD.out.h1; omega)
                have HS5 := Lib.hid hS5; clear hS5
                have HFIN := Lib.hid (show SoP gO gT gF n far lo hi a W (.returned (.tuple #[])) _ from ⟨rfl, _, hE3, hO3, (turned_pm a HFD.out).trans (HP4.out.mono (Nat.le_refl _) (by omega)), merged (a := a) (by omega) (by omega) HS4.out HS5.out (ahead_pm HP4.out (Pm.refl md hi (turned a st m en)) (fun x y x1 x2 y1 y2 => turned_ahead HM.out HFD.out x1 x2 y1 y2))⟩)
                by_cases g6 : md < en
                · have g6' : (md : Int) < ((md : Int) + (m : Int) - (st : Int)) := by rw [HEN.out]; omega
                  have g7' : ¬ ((md : Int) + (m : Int) - (st : Int)) < (hi : Int) := by rw [HEN.out]; omega
                  first
                  | (exfalso; have := HEN.out; omega)
                  | go_wp2_with fail
                    go_end0
                    exact HFIN.out
                · have g6' : ¬ (md : Int) < ((md : Int) + (m : Int) - (st : Int)) := by rw [HEN.out]; omega
                  first
                  | (exfalso; have := HEN.out; omega)
                  | go_wp2_with fail
                    go_end0
                    exact HFIN.out
        · have ga' : ¬ (st : Int) < (m : Int) := by omega
          by_cases g3 : lo < st ∧ st < md
          · obtain ⟨g4, g8⟩ := g3
            have g4' : (lo : Int) < (st : Int) := by omega
            have g8' : (st : Int) < (md : Int) := by omega
            go_wp2_with fail
            refine (HIH.out lo st md (turned a st m en) _ (by omega) hE3 (turned_left HM.out HFD.out hlh) g4 g8 (by omega)).mono ?_; rintro e w4 ⟨rfl, b, hE4, hO4, hP4, hS4⟩
            have HP4 := Lib.hid hP4; have HS4 := Lib.hid hS4; clear hP4 hS4
            have HMR := Lib.hid (mrg_pm (turned_right HM.out HFD.out hlh) HP4.out)
            by_cases g5 : md < en ∧ en < hi
            · obtain ⟨g6, g7⟩ := g5
              have g6' : (md : Int) < ((md : Int) + (m : Int) - (st : Int)) := by rw [HEN.out]; omega
              have g7' : ((md : Int) + (m : Int) - (st : Int)) < (hi : Int) := by rw [HEN.out]; omega
              first
              | (exfalso; have := HEN.out; omega)
              | go_wp2_with fail
                have HC := HIH.out md en hi b _ (by omega) hE4 HMR.out g6 g7 hhi
                rw [← HEN.out] at HC
                refine HC.mono ?_; clear HC; rintro e w5 ⟨rfl, c, hE5, hO5, hP5, hS5⟩
                have HRR := Lib.hid (show SoP gO gT gF n far lo hi a W (.returned (.tuple #[])) _ from ⟨rfl, _, hE5, ((hO3.trans hO4).trans hO5), (((turned_pm a HFD.out).trans (HP4.out.mono (Nat.le_refl _) (by omega))).trans (hP5.mono (by omega) (Nat.le_refl _))), (merged (a := a) (by omega) (by omega) (HS4.out.pm_out hP5 (.inl (Nat.le_refl _))) hS5 (ahead_pm HP4.out hP5 (fun x y x1 x2 y1 y2 => turned_ahead HM.out HFD.out x1 x2 y1 y2)))⟩)
                go_wp2_with fail
                go_end0
                exact HRR.out
            · have hS5 : Sd far md hi b := by
                by_cases g6 : md < en
                · exact Sd.of_mrg_r HMR.out (by omega)
                · exact Sd.of_mrg_l HMR.out (by have := HFD.out.h2; have := HFD.out.e2; have := HFD.out.h1; omega)
              have HS5 := Lib.hid hS5; clear hS5
              have HFIN := Lib.hid (show SoP gO gT gF n far lo hi a W (.returned (.tuple #[])) _ from ⟨rfl, _, hE4, (hO3.trans hO4), (turned_pm a HFD.out).trans (HP4.out.mono (Nat.le_refl _) (by omega)), merged (a := a) (by omega) (by omega) HS4.out HS5.out (ahead_pm HP4.out (Pm.refl md hi b) (fun x y x1 x2 y1 y2 => turned_ahead HM.out HFD.out x1 x2 y1 y2))⟩)
              by_cases g6 : md < en
              · have g6' : (md : Int) < ((md : Int) + (m : Int) - (st : Int)) := by rw [HEN.out]; omega
                have g7' : ¬ ((md : Int) + (m : Int) - (st : Int)) < (hi : Int) := by rw [HEN.out]; omega
                first
                | (exfalso; have := HEN.out; omega)
                | go_wp2_with fail
                  go_end0
                  exact HFIN.out
              · have g6' : ¬ (md : Int) < ((md : Int) + (m : Int) - (st : Int)) := by rw [HEN.out]; omega
                first
                | (exfalso; have := HEN.out; omega)
                | go_wp2_with fail
                  go_end0
                  exact HFIN.out
          · have hS4 : Sd far lo md (turned a st m en) := by
              by_cases g4 : lo < st
              · exact Sd.of_mrg_r (turned_left HM.out HFD.out hlh) (by have := HFD.out.h2; have := HFD.out.e2; omega)
              · exact Sd.of_mrg_l (turned_left HM.out HFD.out hlh) (by have := HFD.out.h1; omega)
            have HS4 := Lib.hid hS4; clear hS4
            have HP4 := Lib.hid (Pm.refl lo md (turned a st m en))
            by_cases g4 : lo < st
            · have g4' : (lo : Int) < (st : Int) := by omega
              have g8' : ¬ (st : Int) < (md : Int) := by omega
              have HMR := Lib.hid (mrg_pm (turned_right HM.out HFD.out hlh) HP4.out)
              by_cases g5 : md < en ∧ en < hi
              · obtain ⟨g6, g7⟩ := g5
                have g6' : (md : Int) < ((md : Int) + (m : Int) - (st : Int)) := by rw [HEN.out]; omega
                have g7' : ((md : Int) + (m : Int) - (st : Int)) < (hi : Int) := by rw [HEN.out]; omega
                first
                | (exfalso; have := HEN.out; omega)
                | go_wp2_with fail
                  have HC := HIH.out md en hi (turned a st m en) _ (by omega) hE3 HMR.out g6 g7 hhi
                  rw [← HEN.out] at HC
                  refine HC.mono ?_; clear HC; rintro e w5 ⟨rfl, c, hE5, hO5, hP5, hS5⟩
                  have HRR := Lib.hid (show SoP gO gT gF n far lo hi a W (.returned (.tuple #[])) _ from ⟨rfl, _, hE5, (hO3.trans hO5), (((turned_pm a HFD.out).trans (HP4.out.mono (Nat.le_refl _) (by omega))).trans (hP5.mono (by omega) (Nat.le_refl _))), (merged (a := a) (by omega) (by omega) (HS4.out.pm_out hP5 (.inl (Nat.le_refl _))) hS5 (ahead_pm HP4.out hP5 (fun x y x1 x2 y1 y2 => turned_ahead HM.out HFD.out x1 x2 y1 y2)))⟩)
                  go_wp2_with fail
                  go_end0
                  exact HRR.out
              · have hS5 : Sd far md hi (turned a st m en) := by
                  by_cases g6 : md < en
                  · exact Sd.of_mrg_r HMR.out (by omega)
                  · exact Sd.of_mrg_l HMR.out (by have := HFD.out.h2; have := HFD.out.e2; have := HFD.out.h1; omega)
                have HS5 := Lib.hid hS5; clear hS5
                have HFIN := Lib.hid (show SoP gO gT gF n far lo hi a W (.returned (.tuple #[])) _ from ⟨rfl, _, hE3, hO3, (turned_pm a HFD.out).trans (HP4.out.mono (Nat.le_refl _) (by omega)), merged (a := a) (by omega) (by omega) HS4.out HS5.out (ahead_pm HP4.out (Pm.refl md hi (turned a st m en)) (fun x y x1 x2 y1 y2 => turned_ahead HM.out HFD.out x1 x2 y1 y2))⟩)
                by_cases g6 : md < en
                · have g6' : (md : Int) < ((md : Int) + (m : Int) - (st : Int)) := by rw [HEN.out]; omega
                  have g7' : ¬ ((md : Int) + (m : Int) - (st : Int)) < (hi : Int) := by rw [HEN.out]; omega
                  first
                  | (exfalso; have := HEN.out; omega)
                  | go_wp2_with fail
                    go_end0
                    exact HFIN.out
                · have g6' : ¬ (md : Int) < ((md : Int) + (m : Int) - (st : Int)) := by rw [HEN.out]; omega
                  first
                  | (exfalso; have := HEN.out; omega)
                  | go_wp2_with fail
                    go_end0
                    exact HFIN.out
            · have g4' : ¬ (lo : Int) < (st : Int) := by omega
              have HMR := Lib.hid (mrg_pm (turned_right HM.out HFD.out hlh) HP4.out)
              by_cases g5 : md < en ∧ en < hi
              · obtain ⟨g6, g7⟩ := g5
                have g6' : (md : Int) < ((md : Int) + (m : Int) - (st : Int)) := by rw [HEN.out]; omega
                have g7' : ((md : Int) + (m : Int) - (st : Int)) < (hi : Int) := by rw [HEN.out]; omega
                first
                | (exfalso; have := HEN.out; omega)
                | go_wp2_with fail
                  have HC := HIH.out md en hi (turned a st m en) _ (by omega) hE3 HMR.out g6 g7 hhi
                  rw [← HEN.out] at HC
                  refine HC.mono ?_; clear HC; rintro e w5 ⟨rfl, c, hE5, hO5, hP5, hS5⟩
                  have HRR := Lib.hid (show SoP gO gT gF n far lo hi a W (.returned (.tuple #[])) _ from ⟨rfl, _, hE5, (hO3.trans hO5), (((turned_pm a HFD.out).trans (HP4.out.mono (Nat.le_refl _) (by omega))).trans (hP5.mono (by omega) (Nat.le_refl _))), (merged (a := a) (by omega) (by omega) (HS4.out.pm_out hP5 (.inl (Nat.le_refl _))) hS5 (ahead_pm HP4.out hP5 (fun x y x1 x2 y1 y2 => turned_ahead HM.out HFD.out x1 x2 y1 y2)))⟩)
                  go_wp2_with fail
                  go_end0
                  exact HRR.out
              · have hS5 : Sd far md hi (turned a st m en) := by
                  by_cases g6 : md < en
                  · exact Sd.of_mrg_r HMR.out (by omega)
                  · exact Sd.of_mrg_l HMR.out (by have := HFD.out.h2; have := HFD.out.e2; have := HFD.out.h1; omega)
                have HS5 := Lib.hid hS5; clear hS5
                have HFIN := Lib.hid (show SoP gO gT gF n far lo hi a W (.returned (.tuple #[])) _ from ⟨rfl, _, hE3, hO3, (turned_pm a HFD.out).trans (HP4.out.mono (Nat.le_refl _) (by omega)), merged (a := a) (by omega) (by omega) HS4.out HS5.out (ahead_pm HP4.out (Pm.refl md hi (turned a st m en)) (fun x y x1 x2 y1 y2 => turned_ahead HM.out HFD.out x1 x2 y1 y2))⟩)
                by_cases g6 : md < en
                · have g6' : (md : Int) < ((md : Int) + (m : Int) - (st : Int)) := by rw [HEN.out]; omega
                  have g7' : ¬ ((md : Int) + (m : Int) - (st : Int)) < (hi : Int) := by rw [HEN.out]; omega
                  first
                  | (exfalso; have := HEN.out; omega)
                  | go_wp2_with fail
                    go_end0
                    exact HFIN.out
                · have g6' : ¬ (md : Int) < ((md : Int) + (m : Int) - (st : Int)) := by rw [HEN.out]; omega
                  first
                  | (exfalso; have := HEN.out; omega)
                  | go_wp2_with fail
                    go_end0
                    exact HFIN.out
end Go.Proofs.Ytoiccljmdplfgaa.So
