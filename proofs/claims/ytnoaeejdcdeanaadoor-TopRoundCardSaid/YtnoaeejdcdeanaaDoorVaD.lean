/-
  ERAS, CHECKED: walked.
-/
import Derived.Test.YtnoaeejdcdeanaaDoorVaC
namespace Go.Proofs.YtnoaeejdcdeanaaDoor.Va
open Go.ChangeShapes Go.WideShapes Go.ChangeAt Go.RowKit Go.Shelf
open Go.Proofs.YtnoaeejdcdeanaaDoor
open Go.Proofs.YtnoaeejdcdeanaaDoor.Wd
open Go.Proofs.YtnoaeejdcdeanaaDoor.Sr
set_option linter.unusedVariables false
set_option linter.unusedSimpArgs false
open Go.Proofs.YtnoaeejdcdeanaaDoor.Dy (dE dOk dchk_any dayV)
open Go.Proofs.YtnoaeejdcdeanaaDoor.Mo (mE mchk_any momV)
open Go.Proofs.YtnoaeejdcdeanaaDoor.Civ (ret_int ret_bool)
open Go.Proofs.YtnoaeejdcdeanaaDoor.Nv (name_any nmB)
open Go.Proofs.YtnoaeejdcdeanaaDoor.Ab (chkB okE Tb check_any)
abbrev utA (e : Er) : Array Value := #[.int .i64 e.uy, .int .i64 e.um, .int .u8 e.uk, .int .i64 e.un, .int .i64 e.ud, .int .i64 e.us, .int .u8 e.uc]
abbrev utZ : Array Value := #[.int .i64 0, .int .i64 0, .int .u8 0, .int .i64 0, .int .i64 0, .int .i64 0, .int .u8 0]
structure UtOk (e : Er) : Prop where
  ye : 1 ≤ e.uy ∧ e.uy ≤ 9999
  mo : 1 ≤ e.um ∧ e.um ≤ 12
  dy : dE e.uk e.un e.ud = 0
  mm : mE e.us e.uc = 0
open Classical in
noncomputable def utE (e : Er) : Int := if UtOk e then 0 else 2
theorem utE_no {e : Er} (h : ¬ UtOk e) : Ending.returned (.int .i64 2) = Ending.returned (.int .i64 (utE e)) := by unfold utE; rw [if_neg h]
theorem utE_yes {e : Er} (h : UtOk e) : Ending.returned (.int .i64 0) = Ending.returned (.int .i64 (utE e)) := by unfold utE; rw [if_pos h]
theorem utE_02 (e : Er) : utE e = 0 ∨ utE e = 2 := by unfold utE; split <;> simp
def utN (e : Er) : Bool := e.uy == 0 && (e.um == 0 && ((e.uk == 0 && (e.un == 0 && e.ud == 0)) && (e.us == 0 && e.uc == 0)))
theorem eqIn_dy (d : Nat) (a b c : Int) (w : World) : (Op.equalIn (d + 2) 49 (.agg #[.int .u8 a, .int .i64 b, .int .i64 c]) (.agg #[.int .u8 0, .int .i64 0, .int .i64 0])).run Tryd.prog w = .ok (a == 0 && (b == 0 && c == 0)) w := by
  rw [run_equalIn_agg w (d + 1) _ #[.int .u8 a, .int .i64 b, .int .i64 c] #[.int .u8 0, .int .i64 0, .int .i64 0] (by kernel_rfl) (by kernel_rfl)]
  go_simp
  repeat' split
  all_goals simp [*]
theorem eqIn_mo (d : Nat) (a b : Int) (w : World) : (Op.equalIn (d + 2) 52 (.agg #[.int .i64 a, .int .u8 b]) (.agg #[.int .i64 0, .int .u8 0])).run Tryd.prog w = .ok (a == 0 && b == 0) w := by
  rw [run_equalIn_agg w (d + 1) _ #[.int .i64 a, .int .u8 b] #[.int .i64 0, .int .u8 0] (by kernel_rfl) (by kernel_rfl)]
  go_simp
  repeat' split
  all_goals simp [*]
set_option maxRecDepth 20000 in
theorem eqIn_ut (n : Nat) (e : Er) (w : World) : (Op.equalIn (n + 3) 54 (.agg (utA e)) (.agg utZ)).run Tryd.prog w = .ok (utN e) w := by
  have e1 := eqIn_dy n e.uk e.un e.ud
  have e2 := eqIn_mo n e.us e.uc
  generalize hA : (e.uk == 0 && (e.un == 0 && e.ud == 0)) = A at e1
  generalize hC : (e.us == 0 && e.uc == 0) = C at e2
  have hU : utN e = (e.uy == 0 && (e.um == 0 && (A && C))) := by unfold utN; rw [hA, hC]
  rw [hU]
  clear hA hC hU
  rw [run_equalIn_agg w (n + 2) _ (utA e) utZ (by kernel_rfl) (by kernel_rfl)]
  go_simp
  cases A <;> cases C <;> by_cases h1 : e.uy = 0 <;> by_cases h2 : e.um = 0 <;> simp [h1, h2]
theorem neq_ut (e : Er) (w : World) : (binOp .neq 54 (.agg (utA e)) (.agg utZ)).run Tryd.prog w = .ok (.bool (!utN e)) w := by
  rw [run_neq_struct, eqIn_ut 9997]; rfl
def isT (s : Int) : Bool := decide (-604800 ≤ s ∧ s ≤ 604800)
theorem etime_any (s : Int) (w : World) :
    Calls Tryd.prog 47 #[.int .i64 s] w fun e w' => e = .returned (.bool (isT s)) ∧ w = w' := by
  unfold isT
  by_cases h : -604800 ≤ s
  · by_cases h2 : s ≤ 604800
    · have e : decide (-604800 ≤ s ∧ s ≤ 604800) = true := by simp [h, h2]
      rw [e]; clear e
      go_enter Tryd.func47, Tryd.ntmps47
      go_wp2
      go_ret
      exact ⟨ret_bool (by simp), rfl⟩
    · have e : decide (-604800 ≤ s ∧ s ≤ 604800) = false := by simp [h2]
      rw [e]; clear e
      go_enter Tryd.func47, Tryd.ntmps47
      go_wp2
      go_ret
      exact ⟨ret_bool (by simp), rfl⟩
  · have e : decide (-604800 ≤ s ∧ s ≤ 604800) = false := by simp [h]
    rw [e]; clear e
    go_enter Tryd.func47, Tryd.ntmps47
    go_wp2
    go_ret
    exact ⟨ret_bool (by simp), rfl⟩
/-- a right era -/
structure ErOk (e : Er) : Prop where
  std : isT e.std = true
  fm : chkB (Ab.L e.fm) = true
  kd : (e.kd = 0 ∧ e.sv = 0 ∧ Ab.L e.ru = []) ∨ (e.kd = 1 ∧ isT e.sv = true ∧ Ab.L e.ru = []) ∨ (e.kd = 2 ∧ e.sv = 0 ∧ nmB e.ru = true)
  un : (e.en = true ∧ utE e = 0) ∨ (e.en = false ∧ utN e = true)
open Classical in
noncomputable def erE (e : Er) : Int := if ErOk e then 0 else 2
theorem erE_no {e : Er} (h : ¬ ErOk e) : Ending.returned (.int .i64 2) = Ending.returned (.int .i64 (erE e)) := by unfold erE; rw [if_neg h]
theorem erE_yes {e : Er} (h : ErOk e) : Ending.returned (.int .i64 0) = Ending.returned (.int .i64 (erE e)) := by unfold erE; rw [if_pos h]
theorem erE_02 (e : Er) : erE e = 0 ∨ erE e = 2 := by unfold erE; split <;> simp
theorem erE_0 {e : Er} : erE e = 0 ↔ ErOk e := by
  unfold erE; by_cases h : ErOk e
  · rw [if_pos h]; exact ⟨fun _ => h, fun _ => rfl⟩
  · rw [if_neg h]; exact ⟨fun e => (by cases e), fun e => absurd e h⟩
theorem er_ut {e : Er} (h8 : e.en = true) (h9 : utE e = 2) : ¬ ErOk e := fun q => by
  rcases q.un with ⟨_, g9⟩ | ⟨g8, _⟩
  · rw [h9] at g9; cases g9
  · rw [h8] at g8; cases g8
theorem er_un {e : Er} (h8 : e.en = false) (h9 : utN e = false) : ¬ ErOk e := fun q => by
  rcases q.un with ⟨g8, _⟩ | ⟨_, g9⟩
  · rw [h8] at g8; cases g8
  · rw [h9] at g9; cases g9
theorem str_nil (s : ByteArray) : (s.toList == []) = decide (Ab.L s = []) := by
  rw [Lib.toList_data]; cases hx : s.data.toList with
  | nil => simp [Ab.L, hx]
  | cons a l => simp [Ab.L, hx]
theorem str_emp (s : ByteArray) : s.toList.isEmpty = decide (Ab.L s = []) := by
  rw [Lib.toList_data]; cases hx : s.data.toList with
  | nil => simp [Ab.L, hx]
  | cons a l => simp [Ab.L, hx]
set_option maxRecDepth 100000 in
set_option maxHeartbeats 6400000 in
theorem until_any (e : Er) (w : World) (hB : e.Bd) : Calls Tryd.prog 49 #[.agg (utA e)] w fun e0 w' => e0 = .returned (.int .i64 (utE e)) ∧ Below w.heap.size w w' := by
  have hk : 0 ≤ e.uk := hB.2.2.2.1.1
  have b := bal (Below.refl _ w) (.cells (utA e) 54)
  have x := Blk.new w 54 (utA e)
  go_enter Tryd.func49, Tryd.ntmps49
  go_upto_region 1 with fail
  generalize w.alloc (.cells (utA e) 54) = W at *
  obtain ⟨g, hg⟩ : ∃ g, w.heap.size = g := ⟨_, rfl⟩
  simp only [hg] at x ⊢
  clear hg
  have c0 : W.cell? ⟨g, 0, none⟩ = some (.int .i64 e.uy) := x.cell 0
  have c1 : W.cell? ⟨g, 1, none⟩ = some (.int .i64 e.um) := x.cell 1
  rcases (show e.uy < 1 ∨ (¬ e.uy < 1 ∧ 9999 < e.uy) ∨ (¬ e.uy < 1 ∧ ¬ 9999 < e.uy ∧ e.um < 1) ∨ (¬ e.uy < 1 ∧ ¬ 9999 < e.uy ∧ ¬ e.um < 1 ∧ 12 < e.um) ∨ (¬ e.uy < 1 ∧ ¬ 9999 < e.uy ∧ ¬ e.um < 1 ∧ ¬ 12 < e.um) by omega) with q1 | ⟨q1, q2⟩ | ⟨q1, q2, q3⟩ | ⟨q1, q2, q3, q4⟩ | ⟨q1, q2, q3, q4⟩
  · have HN := Lib.hid (show ¬ UtOk e from fun q => by have := q.ye; have := q.mo; omega)
    go_wp2_with fail
    go_ret
    exact ⟨utE_no HN.out, b⟩
  · have HN := Lib.hid (show ¬ UtOk e from fun q => by have := q.ye; have := q.mo; omega)
    go_wp2_with fail
    go_ret
    exact ⟨utE_no HN.out, b⟩
  · have HN := Lib.hid (show ¬ UtOk e from fun q => by have := q.ye; have := q.mo; omega)
    go_wp2_with fail
    go_ret
    exact ⟨utE_no HN.out, b⟩
  · have HN := Lib.hid (show ¬ UtOk e from fun q => by have := q.ye; have := q.mo; omega)
    go_wp2_with fail
    go_ret
    exact ⟨utE_no HN.out, b⟩
  · rcases dE_02 e.uk e.un e.ud with h4 | h4
    · have hc := dchk_any e.uk e.un e.ud W hk
      rw [h4] at hc
      have H4 := Lib.hid h4; clear h4
      go_wp2_with (refine wpList_seg_g rfl 49 _ rfl g 2 #[.int .u8 e.uk, .int .i64 e.un, .int .i64 e.ud] rfl _ _ _ _ x Tryd.underlying49 rfl (by kernel_rfl) (by rfl) ?_)
      refine hc.mono ?_; rintro e0 W4 ⟨rfl, hb⟩
      have x4 := x.below hb x.lt; have b4 := bcl b hb; clear hb x b hc c0 c1
      rcases mE_02 e.us e.uc with h5 | h5
      · have hc := mchk_any e.us e.uc W4
        rw [h5] at hc
        have HN := Lib.hid (show UtOk e from ⟨by omega, by omega, H4.out, h5⟩); clear h5
        go_wp2_with (refine wpList_seg_g rfl 52 _ rfl g 5 #[.int .i64 e.us, .int .u8 e.uc] rfl _ _ _ _ x4 Tryd.underlying52 rfl (by kernel_rfl) (by rfl) ?_)
        refine hc.mono ?_; rintro e0 W5 ⟨rfl, hb⟩
        have b5 := bcl b4 hb; clear hb x4 b4 hc
        go_wp2_with fail
        go_ret
        exact ⟨utE_yes HN.out, b5⟩
      · have hc := mchk_any e.us e.uc W4
        rw [h5] at hc
        have HN := Lib.hid (show ¬ UtOk e from fun q => by have := q.mm; rw [h5] at this; cases this); clear h5
        go_wp2_with (refine wpList_seg_g rfl 52 _ rfl g 5 #[.int .i64 e.us, .int .u8 e.uc] rfl _ _ _ _ x4 Tryd.underlying52 rfl (by kernel_rfl) (by rfl) ?_)
        refine hc.mono ?_; rintro e0 W5 ⟨rfl, hb⟩
        have b5 := bcl b4 hb; clear hb x4 b4 hc
        go_wp2_with fail
        go_ret
        exact ⟨utE_no HN.out, b5⟩
    · have hc := dchk_any e.uk e.un e.ud W hk
      rw [h4] at hc
      have HN := Lib.hid (show ¬ UtOk e from fun q => by have := q.dy; rw [h4] at this; cases this); clear h4
      go_wp2_with (refine wpList_seg_g rfl 49 _ rfl g 2 #[.int .u8 e.uk, .int .i64 e.un, .int .i64 e.ud] rfl _ _ _ _ x Tryd.underlying49 rfl (by kernel_rfl) (by rfl) ?_)
      refine hc.mono ?_; rintro e0 W4 ⟨rfl, hb⟩
      have x4 := x.below hb x.lt; have b4 := bcl b hb; clear hb x b hc c0 c1
      go_wp2_with fail
      go_ret
      exact ⟨utE_no HN.out, b4⟩
set_option maxRecDepth 100000 in
set_option maxHeartbeats 12800000 in
theorem era_any (e : Er) (w : World) (hB : e.Bd) (hT : Tb w) (hS : e.ru.size ≤ 1000000 ∧ e.fm.size ≤ 1000000) : Calls Tryd.prog 39 #[.agg e.C] w fun e0 w' => e0 = .returned (.int .i64 (erE e)) ∧ Below w.heap.size w w' := by
  have hb0 := hB
  have kB := hB.2.2.1
  have b := bal (Below.refl _ w) (.cells e.C 56)
  have x := Blk.new w 56 e.C
  have t1 : Tb (w.alloc (.cells e.C 56)) := hT.bel ((Below.refl _ w).alloc (Nat.le_refl _) _)
  go_enter Tryd.func39, Tryd.ntmps39
  go_upto_region 1 with fail
  generalize w.alloc (.cells e.C 56) = W at *
  obtain ⟨g, hg⟩ : ∃ g, w.heap.size = g := ⟨_, rfl⟩
  simp only [hg] at x ⊢
  clear hg
  have c0 : W.cell? ⟨g, 0, none⟩ = some (.int .i64 e.std) := x.cell 0
  have c4 : W.cell? ⟨g, 4, none⟩ = some (.string e.fm) := x.cell 4
  go_wp2_with fail
  refine (etime_any e.std _).mono ?_; rintro e0 W1 ⟨rfl, rfl⟩
  cases h1 : isT e.std with
  | false =>
    have HN := Lib.hid (show ¬ ErOk e from fun q => by have := q.std; rw [h1] at this; cases this); clear h1
    go_wp2_with fail
    go_ret
    exact ⟨erE_no HN.out, b⟩
  | true =>
    have H1 := Lib.hid h1; clear h1
    have hc := check_any e.fm W t1 hS.2
    cases h2 : chkB (Ab.L e.fm) with
    | false =>
      rw [h2] at hc
      have HN := Lib.hid (show ¬ ErOk e from fun q => by have := q.fm; rw [h2] at this; cases this); clear h2
      go_wp2_with fail
      refine hc.mono ?_; rintro e0 W2 ⟨rfl, hb⟩
      have x2 := x.below hb x.lt; have b2 := bcl b hb; clear hb x b hc c0 c4 t1
      go_wp2_with fail
      go_ret
      exact ⟨erE_no HN.out, b2⟩
    | true =>
      rw [h2] at hc
      have H2 := Lib.hid h2; clear h2
      go_wp2_with fail
      refine hc.mono ?_; rintro e0 W2 ⟨rfl, hb⟩
      have x2 := x.below hb x.lt; have b2 := bcl b hb; clear hb x b hc c0 c4 t1
      have c2 : W2.cell? ⟨g, 2, none⟩ = some (.int .i64 e.sv) := x2.cell 2
      have c3 : W2.cell? ⟨g, 3, none⟩ = some (.string e.ru) := x2.cell 3
      rcases (show e.kd = 0 ∨ e.kd = 1 ∨ e.kd = 2 ∨ 3 ≤ e.kd by omega) with hk | hk | hk | hk
      · have c1 : W2.cell? ⟨g, 1, none⟩ = some (.int .u8 0) := by have := x2.cell 1; rw [← hk]; exact this
        have HKd := Lib.hid hk; clear hk
        by_cases h3 : e.sv = 0
        · have s0 : (e.sv == 0) = true := by rw [h3]; rfl
          have H3 := Lib.hid h3; clear h3
          by_cases h6 : Ab.L e.ru = []
          · have r0 : (e.ru.toList == []) = true := by rw [str_nil]; exact decide_eq_true h6
            have r1 : e.ru.toList.isEmpty = true := by rw [str_emp]; exact decide_eq_true h6
            have HK := Lib.hid (show (e.kd = 0 ∧ e.sv = 0 ∧ Ab.L e.ru = []) ∨ (e.kd = 1 ∧ isT e.sv = true ∧ Ab.L e.ru = []) ∨ (e.kd = 2 ∧ e.sv = 0 ∧ nmB e.ru = true) from .inl ⟨HKd.out, H3.out, h6⟩); clear h6 H3 HKd
            cases h8 : e.en with
            | true =>
              have c5 : W2.cell? ⟨g, 5, none⟩ = some (.bool true) := by have := x2.cell 5; rw [← h8]; exact this
              rcases utE_02 e with h9 | h9
              · have hc := until_any e W2 hB
                rw [h9] at hc
                have HN := Lib.hid (show ErOk e from ⟨H1.out, H2.out, HK.out, .inl ⟨h8, h9⟩⟩); clear h8 h9 H1 H2 HK
                go_wp2_with (refine wpList_seg_g rfl 54 _ rfl g 6 (utA e) rfl _ _ _ _ x2 Tryd.underlying54 rfl (by kernel_rfl) (by rfl) ?_)
                refine hc.mono ?_; rintro e0 W9 ⟨rfl, hb⟩
                have b9 := bcl b2 hb
                go_wp2_with fail
                go_ret
                exact ⟨erE_yes HN.out, b9⟩
              · have hc := until_any e W2 hB
                rw [h9] at hc
                have HN := Lib.hid (er_ut h8 h9); clear h8 h9 H1 H2 HK
                go_wp2_with (refine wpList_seg_g rfl 54 _ rfl g 6 (utA e) rfl _ _ _ _ x2 Tryd.underlying54 rfl (by kernel_rfl) (by rfl) ?_)
                refine hc.mono ?_; rintro e0 W9 ⟨rfl, hb⟩
                have b9 := bcl b2 hb
                go_wp2_with fail
                go_ret
                exact ⟨erE_no HN.out, b9⟩
            | false =>
              have c5 : W2.cell? ⟨g, 5, none⟩ = some (.bool false) := by have := x2.cell 5; rw [← h8]; exact this
              have nq := neq_ut e
              cases h9 : utN e with
              | false =>
                rw [h9] at nq
                have HN := Lib.hid (er_un h8 h9); clear h8 h9 H1 H2 HK
                go_wp2_with (refine wpList_seg_g rfl 54 _ rfl g 6 (utA e) rfl _ _ _ _ x2 Tryd.underlying54 rfl (by kernel_rfl) (by rfl) ?_)
                go_ret
                exact ⟨erE_no HN.out, b2⟩
              | true =>
                rw [h9] at nq
                have HN := Lib.hid (show ErOk e from ⟨H1.out, H2.out, HK.out, .inr ⟨h8, h9⟩⟩); clear h8 h9 H1 H2 HK
                go_wp2_with (refine wpList_seg_g rfl 54 _ rfl g 6 (utA e) rfl _ _ _ _ x2 Tryd.underlying54 rfl (by kernel_rfl) (by rfl) ?_)
                go_ret
                exact ⟨erE_yes HN.out, b2⟩
          · have r0 : (e.ru.toList == []) = false := by rw [str_nil]; exact decide_eq_false h6
            have r1 : e.ru.toList.isEmpty = false := by rw [str_emp]; exact decide_eq_false h6
            have HN := Lib.hid (show ¬ ErOk e from fun q => by rcases q.kd with q | q | q <;> first | (have := q.1; have := HKd.out; omega) | (exact h6 q.2.2))
            clear h6
            go_wp2_with fail
            go_ret
            exact ⟨erE_no HN.out, b2⟩
        · have s0 : (e.sv == 0) = false := by rw [beq_eq_false_iff_ne]; exact h3
          have HN := Lib.hid (show ¬ ErOk e from fun q => by rcases q.kd with q | q | q <;> first | (have := q.1; have := HKd.out; omega) | (exact h3 q.2.1))
          clear h3
          go_wp2_with fail
          go_ret
          exact ⟨erE_no HN.out, b2⟩
      · have c1 : W2.cell? ⟨g, 1, none⟩ = some (.int .u8 1) := by have := x2.cell 1; rw [← hk]; exact this
        have HKd := Lib.hid hk; clear hk
        cases h3 : isT e.sv with
        | true =>
          have H3 := Lib.hid h3; clear h3
          go_wp2_with fail
          refine (etime_any e.sv _).mono ?_; rintro e0 W1 ⟨rfl, rfl⟩
          rw [H3.out]
          by_cases h6 : Ab.L e.ru = []
          · have r0 : (e.ru.toList == []) = true := by rw [str_nil]; exact decide_eq_true h6
            have r1 : e.ru.toList.isEmpty = true := by rw [str_emp]; exact decide_eq_true h6
            have HK := Lib.hid (show (e.kd = 0 ∧ e.sv = 0 ∧ Ab.L e.ru = []) ∨ (e.kd = 1 ∧ isT e.sv = true ∧ Ab.L e.ru = []) ∨ (e.kd = 2 ∧ e.sv = 0 ∧ nmB e.ru = true) from .inr (.inl ⟨HKd.out, H3.out, h6⟩)); clear h6 H3 HKd
            cases h8 : e.en with
            | true =>
              have c5 : W2.cell? ⟨g, 5, none⟩ = some (.bool true) := by have := x2.cell 5; rw [← h8]; exact this
              rcases utE_02 e with h9 | h9
              · have hc := until_any e W2 hB
                rw [h9] at hc
                have HN := Lib.hid (show ErOk e from ⟨H1.out, H2.out, HK.out, .inl ⟨h8, h9⟩⟩); clear h8 h9 H1 H2 HK
                go_wp2_with (refine wpList_seg_g rfl 54 _ rfl g 6 (utA e) rfl _ _ _ _ x2 Tryd.underlying54 rfl (by kernel_rfl) (by rfl) ?_)
                refine hc.mono ?_; rintro e0 W9 ⟨rfl, hb⟩
                have b9 := bcl b2 hb
                go_wp2_with fail
                go_ret
                exact ⟨erE_yes HN.out, b9⟩
              · have hc := until_any e W2 hB
                rw [h9] at hc
                have HN := Lib.hid (er_ut h8 h9); clear h8 h9 H1 H2 HK
                go_wp2_with (refine wpList_seg_g rfl 54 _ rfl g 6 (utA e) rfl _ _ _ _ x2 Tryd.underlying54 rfl (by kernel_rfl) (by rfl) ?_)
                refine hc.mono ?_; rintro e0 W9 ⟨rfl, hb⟩
                have b9 := bcl b2 hb
                go_wp2_with fail
                go_ret
                exact ⟨erE_no HN.out, b9⟩
            | false =>
              have c5 : W2.cell? ⟨g, 5, none⟩ = some (.bool false) := by have := x2.cell 5; rw [← h8]; exact this
              have nq := neq_ut e
              cases h9 : utN e with
              | false =>
                rw [h9] at nq
                have HN := Lib.hid (er_un h8 h9); clear h8 h9 H1 H2 HK
                go_wp2_with (refine wpList_seg_g rfl 54 _ rfl g 6 (utA e) rfl _ _ _ _ x2 Tryd.underlying54 rfl (by kernel_rfl) (by rfl) ?_)
                go_ret
                exact ⟨erE_no HN.out, b2⟩
              | true =>
                rw [h9] at nq
                have HN := Lib.hid (show ErOk e from ⟨H1.out, H2.out, HK.out, .inr ⟨h8, h9⟩⟩); clear h8 h9 H1 H2 HK
                go_wp2_with (refine wpList_seg_g rfl 54 _ rfl g 6 (utA e) rfl _ _ _ _ x2 Tryd.underlying54 rfl (by kernel_rfl) (by rfl) ?_)
                go_ret
                exact ⟨erE_yes HN.out, b2⟩
          · have r0 : (e.ru.toList == []) = false := by rw [str_nil]; exact decide_eq_false h6
            have r1 : e.ru.toList.isEmpty = false := by rw [str_emp]; exact decide_eq_false h6
            have HN := Lib.hid (show ¬ ErOk e from fun q => by rcases q.kd with q | q | q <;> first | (have := q.1; have := HKd.out; omega) | (exact h6 q.2.2))
            clear h6
            go_wp2_with fail
            go_ret
            exact ⟨erE_no HN.out, b2⟩
        | false =>
          have HN := Lib.hid (show ¬ ErOk e from fun q => by rcases q.kd with q | q | q <;> first | (have := q.1; have := HKd.out; omega) | (have := q.2.1; rw [h3] at this; cases this))
          go_wp2_with fail
          refine (etime_any e.sv _).mono ?_; rintro e0 W1 ⟨rfl, rfl⟩
          rw [h3]; clear h3
          go_wp2_with fail
          go_ret
          exact ⟨erE_no HN.out, b2⟩
      · have c1 : W2.cell? ⟨g, 1, none⟩ = some (.int .u8 2) := by have := x2.cell 1; rw [← hk]; exact this
        have HKd := Lib.hid hk; clear hk
        by_cases h3 : e.sv = 0
        · have s0 : (e.sv == 0) = true := by rw [h3]; rfl
          have H3 := Lib.hid h3; clear h3
          go_wp2_with fail
          refine (name_any e.ru _ hB.1).mono ?_; rintro e0 W3 ⟨rfl, hb⟩
          have x3 := x2.below hb x2.lt; have b3 := bcl b2 hb; clear hb x2 b2 c1 c2 c3
          cases h6 : nmB e.ru with
          | false =>
            have HN := Lib.hid (show ¬ ErOk e from fun q => by rcases q.kd with q | q | q <;> first | (have := q.1; have := HKd.out; omega) | (have := q.2.2; rw [h6] at this; cases this))
            clear h6
            go_wp2_with fail
            go_ret
            exact ⟨erE_no HN.out, b3⟩
          | true =>
            have HK := Lib.hid (show (e.kd = 0 ∧ e.sv = 0 ∧ Ab.L e.ru = []) ∨ (e.kd = 1 ∧ isT e.sv = true ∧ Ab.L e.ru = []) ∨ (e.kd = 2 ∧ e.sv = 0 ∧ nmB e.ru = true) from .inr (.inr ⟨HKd.out, H3.out, h6⟩)); clear h6 H3 HKd
            cases h8 : e.en with
            | true =>
              have c5 : W3.cell? ⟨g, 5, none⟩ = some (.bool true) := by have := x3.cell 5; rw [← h8]; exact this
              rcases utE_02 e with h9 | h9
              · have hc := until_any e W3 hB
                rw [h9] at hc
                have HN := Lib.hid (show ErOk e from ⟨H1.out, H2.out, HK.out, .inl ⟨h8, h9⟩⟩); clear h8 h9 H1 H2 HK
                go_wp2_with (refine wpList_seg_g rfl 54 _ rfl g 6 (utA e) rfl _ _ _ _ x3 Tryd.underlying54 rfl (by kernel_rfl) (by rfl) ?_)
                refine hc.mono ?_; rintro e0 W9 ⟨rfl, hb⟩
                have b9 := bcl b3 hb
                go_wp2_with fail
                go_ret
                exact ⟨erE_yes HN.out, b9⟩
              · have hc := until_any e W3 hB
                rw [h9] at hc
                have HN := Lib.hid (er_ut h8 h9); clear h8 h9 H1 H2 HK
                go_wp2_with (refine wpList_seg_g rfl 54 _ rfl g 6 (utA e) rfl _ _ _ _ x3 Tryd.underlying54 rfl (by kernel_rfl) (by rfl) ?_)
                refine hc.mono ?_; rintro e0 W9 ⟨rfl, hb⟩
                have b9 := bcl b3 hb
                go_wp2_with fail
                go_ret
                exact ⟨erE_no HN.out, b9⟩
            | false =>
              have c5 : W3.cell? ⟨g, 5, none⟩ = some (.bool false) := by have := x3.cell 5; rw [← h8]; exact this
              have nq := neq_ut e
              cases h9 : utN e with
              | false =>
                rw [h9] at nq
                have HN := Lib.hid (er_un h8 h9); clear h8 h9 H1 H2 HK
                go_wp2_with (refine wpList_seg_g rfl 54 _ rfl g 6 (utA e) rfl _ _ _ _ x3 Tryd.underlying54 rfl (by kernel_rfl) (by rfl) ?_)
                go_ret
                exact ⟨erE_no HN.out, b3⟩
              | true =>
                rw [h9] at nq
                have HN := Lib.hid (show ErOk e from ⟨H1.out, H2.out, HK.out, .inr ⟨h8, h9⟩⟩); clear h8 h9 H1 H2 HK
                go_wp2_with (refine wpList_seg_g rfl 54 _ rfl g 6 (utA e) rfl _ _ _ _ x3 Tryd.underlying54 rfl (by kernel_rfl) (by rfl) ?_)
                go_ret
                exact ⟨erE_yes HN.out, b3⟩
        · have s0 : (e.sv == 0) = false := by rw [beq_eq_false_iff_ne]; exact h3
          have HN := Lib.hid (show ¬ ErOk e from fun q => by rcases q.kd with q | q | q <;> first | (have := q.1; have := HKd.out; omega) | (exact h3 q.2.1))
          clear h3
          go_wp2_with fail
          go_ret
          exact ⟨erE_no HN.out, b2⟩
      · have c1 : W2.cell? ⟨g, 1, none⟩ = some (.int .u8 e.kd) := x2.cell 1
        have k0 : (e.kd == 0) = false := by rw [beq_eq_false_iff_ne]; omega
        have k1 : (e.kd == 1) = false := by rw [beq_eq_false_iff_ne]; omega
        have k2 : (e.kd == 2) = false := by rw [beq_eq_false_iff_ne]; omega
        have HN := Lib.hid (show ¬ ErOk e from fun q => by rcases q.kd with q | q | q <;> omega)
        clear hk
        go_wp2_with fail
        go_ret
        exact ⟨erE_no HN.out, b2⟩
end Go.Proofs.YtnoaeejdcdeanaaDoor.Va
