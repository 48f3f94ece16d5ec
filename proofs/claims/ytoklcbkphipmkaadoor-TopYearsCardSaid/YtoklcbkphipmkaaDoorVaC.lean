/-
  A RULE, CHECKED: walked.
-/
import Derived.Test.YtoklcbkphipmkaaDoorRows
import Derived.Test.YtoklcbkphipmkaaDoorSrc
import Derived.Test.YtoklcbkphipmkaaDoorNmV
import Derived.Test.YtoklcbkphipmkaaDoorAb2
import Derived.Test.YtoklcbkphipmkaaDoorMom
namespace Go.Proofs.YtoklcbkphipmkaaDoor.Va
open Go.ChangeShapes Go.WideShapes Go.ChangeAt Go.RowKit
open Go.Proofs.YtoklcbkphipmkaaDoor
open Go.Proofs.YtoklcbkphipmkaaDoor.Wd
open Go.Proofs.YtoklcbkphipmkaaDoor.Sr
set_option linter.unusedVariables false
set_option linter.unusedSimpArgs false
open Go.Proofs.YtoklcbkphipmkaaDoor.Dy (dE dOk dchk_any dayV)
open Go.Proofs.YtoklcbkphipmkaaDoor.Mo (mE mchk_any momV)
open Go.Proofs.YtoklcbkphipmkaaDoor.Civ (ret_int)
open Go.Proofs.YtoklcbkphipmkaaDoor.Nv (risB nth rising_any name_any nmB)
open Go.Proofs.YtoklcbkphipmkaaDoor.Ab (letB okE letter_any)
theorem bal {w W : World} (h : Below w.heap.size w W) (o : Obj) : Below w.heap.size w (W.alloc o) := h.alloc h.size o
theorem bcl {w W W' : World} (h : Below w.heap.size w W) (k : Below W.heap.size W W') : Below w.heap.size w W' := h.trans (k.mono h.size)
theorem reads_i {w : World} {g : Nat} {t : TypeId} (l : List Int) (x : Blk w g t (l.map (Value.int .i64)).toArray) : Reads w w.heap.size 1 (some ⟨g, 0, none⟩) l.length (l.map (Value.int .i64)) := by
  refine ⟨by simp, fun _ => ⟨_, rfl, x.lt, fun j u hu => ?_⟩⟩
  have e : (⟨g, 0, none⟩ : Addr).add j = ⟨g, j, none⟩ := by unfold Addr.add; split <;> simp_all
  rw [e, x.cell]
  simpa using hu
theorem ris4 {w : World} {g : Nat} {t : TypeId} {a b : Int} (x : Blk w g t #[.int .i64 1, .int .i64 a, .int .i64 b, .int .i64 9999]) :
    Calls Tryd.prog 18 #[.slice (some ⟨g, 0, none⟩) 4 4] w fun e w' => e = .returned (.bool (decide (1 ≤ a ∧ a ≤ b ∧ b ≤ 9999))) ∧ Below w.heap.size w w' := by
  have := rising_any (some ⟨g, 0, none⟩) 4 4 [1, a, b, 9999] w (reads_i [1, a, b, 9999] x) (by decide) (by decide)
  rwa [show risB [1, a, b, 9999] = decide (1 ≤ a ∧ a ≤ b ∧ b ≤ 9999) by
    show ((List.range 3).all fun i => decide (nth [1, a, b, 9999] i ≤ nth [1, a, b, 9999] (i + 1))) = _
    show (decide (1 ≤ a) && (decide (a ≤ b) && (decide (b ≤ 9999) && true))) = _
    rw [Bool.and_true, ← Bool.decide_and, ← Bool.decide_and]] at this
theorem ris3 {w : World} {g : Nat} {t : TypeId} {a : Int} (x : Blk w g t #[.int .i64 1, .int .i64 a, .int .i64 12]) :
    Calls Tryd.prog 18 #[.slice (some ⟨g, 0, none⟩) 3 3] w fun e w' => e = .returned (.bool (decide (1 ≤ a ∧ a ≤ 12))) ∧ Below w.heap.size w w' := by
  have := rising_any (some ⟨g, 0, none⟩) 3 3 [1, a, 12] w (reads_i [1, a, 12] x) (by decide) (by decide)
  rwa [show risB [1, a, 12] = decide (1 ≤ a ∧ a ≤ 12) by
    show ((List.range 2).all fun i => decide (nth [1, a, 12] i ≤ nth [1, a, 12] (i + 1))) = _
    show (decide (1 ≤ a) && (decide (a ≤ 12) && true)) = _
    rw [Bool.and_true, ← Bool.decide_and]] at this
/-- a right rule -/
structure RuOk (r : Ru) : Prop where
  nm : nmB r.nm = true
  ye : 1 ≤ r.fr ∧ r.fr ≤ r.tt ∧ r.tt ≤ 9999
  mo : 1 ≤ r.mo ∧ r.mo ≤ 12
  dy : dE r.kd r.dn r.dw = 0
  mm : mE r.sec r.ck = 0
  sv : -604800 ≤ r.sv ∧ r.sv ≤ 604800
  lt : letB (Ab.L r.lt) = true
open Classical in
noncomputable def ruE (r : Ru) : Int := if RuOk r then 0 else 2
theorem ruE_no {r : Ru} (h : ¬ RuOk r) : Ending.returned (.int .i64 2) = Ending.returned (.int .i64 (ruE r)) := by unfold ruE; rw [if_neg h]
theorem ruE_yes {r : Ru} (h : RuOk r) : Ending.returned (.int .i64 0) = Ending.returned (.int .i64 (ruE r)) := by unfold ruE; rw [if_pos h]
theorem ruE_0 {r : Ru} : ruE r = 0 ↔ RuOk r := by
  unfold ruE; by_cases h : RuOk r
  · rw [if_pos h]; exact ⟨fun _ => h, fun _ => rfl⟩
  · rw [if_neg h]; exact ⟨fun e => (by cases e), fun e => absurd e h⟩
theorem ruE_02 (r : Ru) : ruE r = 0 ∨ ruE r = 2 := by unfold ruE; split <;> simp
theorem dE_02 (k n d : Int) : dE k n d = 0 ∨ dE k n d = 2 := by unfold dE; split <;> simp
theorem mE_02 (k n : Int) : mE k n = 0 ∨ mE k n = 2 := by unfold mE; split <;> simp
set_option maxRecDepth 100000 in
set_option maxHeartbeats 6400000 in
theorem rule_any (r : Ru) (w : World) (hB : r.Bd) : Calls Tryd.prog 8 #[.agg r.C] w fun e w' => e = .returned (.int .i64 (ruE r)) ∧ Below w.heap.size w w' := by
  have hnm := hB.1; have hlt := hB.2.1; have hkd : 0 ≤ r.kd := hB.2.2.1.1
  have b := bal (Below.refl _ w) (.cells r.C 42)
  have x := Blk.new w 42 r.C
  go_enter Tryd.func8, Tryd.ntmps8
  go_upto_region 1 with fail
  generalize w.alloc (.cells r.C 42) = W at *
  obtain ⟨g, hg⟩ : ∃ g, w.heap.size = g := ⟨_, rfl⟩
  simp only [hg] at x ⊢
  clear hg
  have c0 : W.cell? ⟨g, 0, none⟩ = some (.string r.nm) := x.cell 0
  go_wp2_with fail
  refine (name_any r.nm _ hnm).mono ?_; rintro e W1 ⟨rfl, hb⟩
  have x1 := x.below hb x.lt; have b1 := bcl b hb; clear hb x b c0
  cases h1 : nmB r.nm with
  | false =>
    have HN := Lib.hid (show ¬ RuOk r from fun q => by have := q.nm; rw [h1] at this; cases this); clear h1
    go_wp2_with fail
    go_ret
    exact ⟨ruE_no HN.out, b1⟩
  | true =>
    have H1 := Lib.hid h1; clear h1
    have c1 : W1.cell? ⟨g, 1, none⟩ = some (.int .i64 r.fr) := x1.cell 1
    have c2 : W1.cell? ⟨g, 2, none⟩ = some (.int .i64 r.tt) := x1.cell 2
    have b1a := bal b1 (.cells #[.int .i64 1, .int .i64 r.fr, .int .i64 r.tt, .int .i64 9999] 3)
    have x1a := x1.alloc (.cells #[.int .i64 1, .int .i64 r.fr, .int .i64 r.tt, .int .i64 9999] 3)
    have hri := ris4 (Blk.new W1 3 #[.int .i64 1, .int .i64 r.fr, .int .i64 r.tt, .int .i64 9999])
    by_cases h2 : 1 ≤ r.fr ∧ r.fr ≤ r.tt ∧ r.tt ≤ 9999
    · rw [decide_eq_true h2] at hri; have H2 := Lib.hid h2; clear h2
      go_wp2_with fail
      refine hri.mono ?_; rintro e W2 ⟨rfl, hb⟩
      have x2 := x1a.below hb x1a.lt; have b2 := bcl b1a hb; clear hb x1 x1a b1 b1a hri c1 c2
      have c3 : W2.cell? ⟨g, 3, none⟩ = some (.int .i64 r.mo) := x2.cell 3
      have b2a := bal b2 (.cells #[.int .i64 1, .int .i64 r.mo, .int .i64 12] 3)
      have x2a := x2.alloc (.cells #[.int .i64 1, .int .i64 r.mo, .int .i64 12] 3)
      have hri := ris3 (Blk.new W2 3 #[.int .i64 1, .int .i64 r.mo, .int .i64 12])
      by_cases h3 : 1 ≤ r.mo ∧ r.mo ≤ 12
      · rw [decide_eq_true h3] at hri; have H3 := Lib.hid h3; clear h3
        go_wp2_with fail
        refine hri.mono ?_; rintro e W3 ⟨rfl, hb⟩
        have x3 := x2a.below hb x2a.lt; have b3 := bcl b2a hb; clear hb x2 x2a b2 b2a hri c3
        rcases dE_02 r.kd r.dn r.dw with h4 | h4
        · have hc := dchk_any r.kd r.dn r.dw W3 hkd
          rw [h4] at hc
          have H4 := Lib.hid h4; clear h4
          go_wp2_with (refine wpList_seg_g rfl 30 _ rfl g 4 #[.int .u8 r.kd, .int .i64 r.dn, .int .i64 r.dw] rfl _ _ _ _ x3 Tryd.underlying30 rfl (by kernel_rfl) (by rfl) ?_)
          refine hc.mono ?_; rintro e W4 ⟨rfl, hb⟩
          have x4 := x3.below hb x3.lt; have b4 := bcl b3 hb; clear hb x3 b3 hc
          rcases mE_02 r.sec r.ck with h5 | h5
          · have hc := mchk_any r.sec r.ck W4
            rw [h5] at hc
            have H5 := Lib.hid h5; clear h5
            go_wp2_with (refine wpList_seg_g rfl 33 _ rfl g 7 #[.int .i64 r.sec, .int .u8 r.ck] rfl _ _ _ _ x4 Tryd.underlying33 rfl (by kernel_rfl) (by rfl) ?_)
            refine hc.mono ?_; rintro e W5 ⟨rfl, hb⟩
            have x5 := x4.below hb x4.lt; have b5 := bcl b4 hb; clear hb x4 b4 hc
            have c6 : W5.cell? ⟨g, 9, none⟩ = some (.int .i64 r.sv) := x5.cell 9
            have c7 : W5.cell? ⟨g, 10, none⟩ = some (.string r.lt) := x5.cell 10
            have hs6 : r.sv < -604800 ∨ (¬ r.sv < -604800 ∧ 604800 < r.sv) ∨ (¬ r.sv < -604800 ∧ ¬ 604800 < r.sv) := by omega
            rcases hs6 with q1 | ⟨q1, q2⟩ | ⟨q1, q2⟩
            · have HN := Lib.hid (show ¬ RuOk r from fun q => by have := q.sv; omega)
              clear H1 H2 H3 H4 H5
              go_wp2_with fail
              go_ret
              exact ⟨ruE_no HN.out, b5⟩
            · have HN := Lib.hid (show ¬ RuOk r from fun q => by have := q.sv; omega)
              clear H1 H2 H3 H4 H5
              go_wp2_with fail
              go_ret
              exact ⟨ruE_no HN.out, b5⟩
            · cases h7 : letB (Ab.L r.lt) with
              | false =>
                have hc := letter_any r.lt W5 hlt
                rw [h7] at hc
                have HN := Lib.hid (show ¬ RuOk r from fun q => by have := q.lt; rw [h7] at this; cases this); clear h7
                clear H1 H2 H3 H4 H5
                go_wp2_with fail
                refine hc.mono ?_; rintro e W6 ⟨rfl, hb⟩
                have b6 := bcl b5 hb; clear hb x5 b5 hc
                go_wp2_with fail
                go_ret
                exact ⟨ruE_no HN.out, b6⟩
              | true =>
                have hc := letter_any r.lt W5 hlt
                rw [h7] at hc
                have HN := Lib.hid (show RuOk r from ⟨H1.out, H2.out, H3.out, H4.out, H5.out, by omega, h7⟩); clear h7
                clear H1 H2 H3 H4 H5
                go_wp2_with fail
                refine hc.mono ?_; rintro e W6 ⟨rfl, hb⟩
                have b6 := bcl b5 hb; clear hb x5 b5 hc
                go_wp2_with fail
                go_ret
                exact ⟨ruE_yes HN.out, b6⟩
          · have hc := mchk_any r.sec r.ck W4
            rw [h5] at hc
            have HN := Lib.hid (show ¬ RuOk r from fun q => by have := q.mm; rw [h5] at this; cases this); clear h5
            go_wp2_with (refine wpList_seg_g rfl 33 _ rfl g 7 #[.int .i64 r.sec, .int .u8 r.ck] rfl _ _ _ _ x4 Tryd.underlying33 rfl (by kernel_rfl) (by rfl) ?_)
            refine hc.mono ?_; rintro e W5 ⟨rfl, hb⟩
            have x5 := x4.below hb x4.lt; have b5 := bcl b4 hb; clear hb x4 b4 hc
            go_wp2_with fail
            go_ret
            exact ⟨ruE_no HN.out, b5⟩
        · have hc := dchk_any r.kd r.dn r.dw W3 hkd
          rw [h4] at hc
          have HN := Lib.hid (show ¬ RuOk r from fun q => by have := q.dy; rw [h4] at this; cases this); clear h4
          go_wp2_with (refine wpList_seg_g rfl 30 _ rfl g 4 #[.int .u8 r.kd, .int .i64 r.dn, .int .i64 r.dw] rfl _ _ _ _ x3 Tryd.underlying30 rfl (by kernel_rfl) (by rfl) ?_)
          refine hc.mono ?_; rintro e W4 ⟨rfl, hb⟩
          have x4 := x3.below hb x3.lt; have b4 := bcl b3 hb; clear hb x3 b3 hc
          go_wp2_with fail
          go_ret
          exact ⟨ruE_no HN.out, b4⟩
      · rw [decide_eq_false h3] at hri; have HN := Lib.hid (show ¬ RuOk r from fun q => h3 q.mo); clear h3
        go_wp2_with fail
        refine hri.mono ?_; rintro e W3 ⟨rfl, hb⟩
        have x3 := x2a.below hb x2a.lt; have b3 := bcl b2a hb; clear hb x2 x2a b2 b2a hri c3
        go_wp2_with fail
        go_ret
        exact ⟨ruE_no HN.out, b3⟩
    · rw [decide_eq_false h2] at hri; have HN := Lib.hid (show ¬ RuOk r from fun q => h2 q.ye); clear h2
      go_wp2_with fail
      refine hri.mono ?_; rintro e W2 ⟨rfl, hb⟩
      have x2 := x1a.below hb x1a.lt; have b2 := bcl b1a hb; clear hb x1 x1a b1 b1a hri c1 c2
      go_wp2_with fail
      go_ret
      exact ⟨ruE_no HN.out, b2⟩
end Go.Proofs.YtoklcbkphipmkaaDoor.Va
