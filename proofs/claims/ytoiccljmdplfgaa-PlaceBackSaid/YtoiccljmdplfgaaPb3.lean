/-
  PlaceBack, walked.
-/
import Derived.Test.YtoiccljmdplfgaaPb2
import Derived.Test.YtoiccljmdplfgaaNn1
namespace Go.Proofs.Ytoiccljmdplfgaa.Nr
open Go.ChangeShapes Go.WideShapes Go.ChangeAt Go.RowKit Go.Shelf
open Go.Proofs.Ytoiccljmdplfgaa
open Go.Proofs.Ytoiccljmdplfgaa.Wd
open Go.Proofs.Ytoiccljmdplfgaa.Pl
open Go.Proofs.Ytoiccljmdplfgaa.Nv
open Go.Proofs.Ytoiccljmdplfgaa.Ld
open Go.Proofs.Ytoiccljmdplfgaa.Pt (L B L_len ptE ptV pT txtT txtE ptext_any point_at V1 own_bel)
open Go.Proofs.Ytoiccljmdplfgaa.Scn (Fl B_len L_B faV faC)
set_option linter.unusedVariables false
set_option linter.unusedSimpArgs false
attribute [local go_sem ↓] Go.wp_at_zero Go.wp_at_succ
attribute [local go_sem ↓] ldP_sem ldFa_sem ldPc_sem
attribute [local go_sem] ldSem_run
open Go.Proofs.Ytoiccljmdplfgaa.Scn (LR lnF lnV lnV_fine cutL fds addL ln_bad ln_more ln_last)
theorem addL_no {acc : List (Nat × List Fl)} {no : Nat} {fs : List Fl} (h : ∀ x ∈ acc, 1 ≤ x.1) (hn : 1 ≤ no) : ∀ x ∈ addL acc no fs, 1 ≤ x.1 := by
  unfold addL
  cases fs with
  | nil => exact h
  | cons a t =>
    intro x hx
    rcases List.mem_append.1 hx with q | q
    · exact h x q
    · rw [List.mem_singleton.1 q]; exact hn
theorem lnF_no : ∀ (f : Nat) (t : List UInt8) (no : Nat) (acc l : List (Nat × List Fl)), 1 ≤ no → (∀ x ∈ acc, 1 ≤ x.1) → lnF f t no acc = .ok l → ∀ x ∈ l, 1 ≤ x.1
  | 0, _, _, _, _, _, h, e => by cases e; exact h
  | f + 1, t, no, acc, l, hn, h, e => by
    cases e1 : fds (cutL t).1 with
    | bad c y => rw [ln_bad e1] at e; cases e
    | ok fs =>
      cases e2 : (cutL t).2.2 with
      | true => rw [ln_more e1 e2] at e; exact lnF_no f _ _ _ l (Nat.le_add_left _ _) (addL_no h hn) e
      | false => rw [ln_last e1 e2] at e; cases e; exact addL_no h hn
theorem pars_fine : ∀ (r : List (Nat × List Fl)) (acc : List Pc) (ln c : Nat) (y : Int), (∀ x ∈ r, 1 ≤ x.1 ∧ x.2 ≠ [] ∧ ∀ f ∈ x.2, 1 ≤ f.2) → pars r acc = .bad ln c y → 1 ≤ ln ∧ 1 ≤ c ∧ y ≠ 0
  | [], _, _, _, _, _, e => by cases e
  | x :: r, acc, ln, c, y, h, e => by
    have hx := h x (by simp)
    rw [pars] at e
    cases e1 : prs x.2 with
    | bad c1 y1 =>
      rw [e1] at e; cases e
      exact ⟨hx.1, prs_fine hx.2.1 hx.2.2 e1⟩
    | ok a =>
      rw [e1] at e
      simp only at e
      by_cases q : 4096 ≤ acc.length
      · rw [if_pos q] at e; cases e
        refine ⟨hx.1, hx.2.2 _ ?_, by decide⟩
        show x.2.getD 0 _ ∈ x.2
        have hp : 0 < x.2.length := Nat.pos_of_ne_zero (fun q => hx.2.1 (List.eq_nil_of_length_eq_zero q))
        rw [List.getD_eq_getElem?_getD, List.getElem?_eq_getElem hp]; exact List.getElem_mem hp
      · rw [if_neg q] at e
        exact pars_fine r _ ln c y (fun z hz => h z (by simp [hz])) e
theorem parV_fine {t : List UInt8} {ln c : Nat} {y : Int} (h : parV t = .bad ln c y) : 1 ≤ ln ∧ 1 ≤ c ∧ y ≠ 0 := by
  have hf := lnV_fine t
  unfold parV at h
  cases e : lnV t with
  | bad n c y => rw [e] at h hf; cases h; exact hf
  | ok l =>
    rw [e] at h hf
    have hn := lnF_no _ _ _ _ l (Nat.le_refl 1) (fun x hx => absurd hx List.not_mem_nil) e
    exact pars_fine l [] ln c y (fun x hx => ⟨hn x hx, hf x hx⟩) h
theorem parV_right {t : List UInt8} {l : List Pc} (h : parV t = .ok l) : pcE l = 0 := by
  unfold parV at h
  cases e : lnV t with
  | bad n c y => rw [e] at h; cases h
  | ok r => rw [e] at h; exact pars_right r [] l (Nat.zero_le _) (fun a ha => absurd ha List.not_mem_nil) h
set_option maxRecDepth 100000 in
set_option maxHeartbeats 12800000 in
theorem back_any (p o : P2) (t : ByteArray) (A : Option Addr) (n c : Nat) (l : List Pc) (s : ByteArray) (w : World) (hR : Pcs w w.heap.size A n l) (hm : n ≤ maxLen) (ht : t.size ≤ maxLen) (hs : s.size ≤ maxLen) :
    Calls Try.prog 9 #[p.V, o.V, .string t, .slice A n c, .string s] w fun e w' => e = .returned (.bool true) ∧ Below w.heap.size w w' := by
  unfold maxLen at ht hs
  have b1 := ((Below.refl w.heap.size w).alloc (Nat.le_refl _) (.cells p.A 23))
  have b2 := b1.alloc b1.size (.cells o.A 23)
  have y1 := (Blk.new w 23 p.A).alloc (.cells o.A 23)
  have z1 := blk_at (w.alloc (.cells p.A 23)) 23 o.A (sz1 _ _ rfl)
  clear b1
  go_enter Try.func9, Try.ntmps9
  go_wp2_with fail
  refine (lives42_any _).mono ?_; rintro e w2 ⟨rfl, hb⟩
  have b3 := b2.trans (hb.mono b2.size); have y2 := y1.below hb y1.lt; have z2 := z1.below hb z1.lt
  clear b2 y1 z1 hb
  generalize w.heap.size + 1 = g6 at *
  by_cases h1 : (1000 : Int) < (t.size : Int)
  · go_wp2_with fail
    go_ret
    exact ⟨rfl, b3⟩
  have hsm := small42_det A n c l w2 ((hR.below b3).more b3.size) hm
  cases hf : fwB l with
  | false =>
    rw [hf] at hsm
    simp only [Bool.false_eq_true, if_false] at hsm
    go_wp2_with fail
    refine hsm.mono ?_; rintro e w3 ⟨rfl, hb⟩
    have b4 := b3.trans (hb.mono b3.size)
    go_wp2_with fail
    go_ret
    exact ⟨rfl, b4⟩
  | true =>
  rw [hf] at hsm
  simp only [if_true] at hsm
  go_wp2_with fail
  refine hsm.mono ?_; rintro e w3 ⟨rfl, hb⟩
  have b4 := b3.trans (hb.mono b3.size); have y4 := y2.below hb y2.lt; have z4 := z2.below hb z2.lt
  clear b3 y2 z2 hb hsm
  by_cases h2 : (8192 : Int) < (s.size : Int)
  · go_wp2_with fail
    go_ret
    exact ⟨rfl, b4⟩
  have hn60 := fw_few hf
  have hpt := fun W => ptext_any p.la p.lo W
  obtain ⟨E, hE⟩ : ∃ E, txtE ⟨p.la, p.lo⟩ = E := ⟨_, rfl⟩
  obtain ⟨X, hX⟩ : ∃ X, B (txtT ⟨p.la, p.lo⟩) = X := ⟨_, rfl⟩
  simp only [hE, hX] at hpt
  have HE := Lib.hid hE; have HX := Lib.hid hX
  clear hE hX hf
  go_wp2_with (refine wpList_row_g rfl 23 _ rfl _ rfl _ _ _ _ y4 Try.underlying23 rfl (by kernel_rfl) ?_)
  refine (hpt _).mono ?_; rintro e w5 ⟨rfl, hb⟩
  have b5 := b4.trans (hb.mono b4.size); have y5 := y4.below hb y4.lt; have z5 := z4.below hb z4.lt
  clear b4 y4 z4 hb hpt
  go_upto_if 48 with fail
  go_cut [] (fun wx => Below w.heap.size w wx)
  case first =>
    by_cases hpk : p.ok = true
    · have e1 : E = 0 := by rw [← HE.out]; unfold txtE; rw [if_pos (show P2.ok ⟨p.la, p.lo⟩ = true from hpk)]
      have e2 : X = B (pT p) := by rw [← HX.out]; unfold txtT; rw [if_pos (show P2.ok ⟨p.la, p.lo⟩ = true from hpk)]
      subst e1; subst e2
      have hpo : ∀ W, Calls Try.prog 34 #[.string (B (pT p))] W fun e w' => e = .returned (.tuple #[.agg p.A, .int .i64 0]) ∧ Below W.heap.size W w' := fun W => by
        have h := point_at (B (pT p)) W
        rw [show ptV (L (B (pT p))) = p from (Pt.pt_back hpk).2, show ptE (L (B (pT p))) = 0 from Pt.ptE_back hpk] at h
        exact h
      have hot := fun W => ptext_any o.la o.lo W
      go_wp2_with fail
      refine (hpo _).mono ?_; rintro e w6 ⟨rfl, hb⟩
      have b6 := b5.trans (hb.mono b5.size); have y6 := (y5.below hb y5.lt).alloc (.cells p.A 23); have z6 := (z5.below hb z5.lt).alloc (.cells p.A 23)
      have x6 := Blk.new w6 23 p.A
      have b6' := b6.alloc b6.size (.cells p.A 23)
      clear b5 y5 z5 hb hpo b6
      by_cases hok : o.ok = true
      rotate_left
      · have e3 : txtE ⟨o.la, o.lo⟩ = 2 := by unfold txtE; rw [if_neg (show ¬ P2.ok ⟨o.la, o.lo⟩ = true from hok)]
        simp only [e3] at hot
        clear e3
        go_wp2_with (first | (refine wpList_store_new rfl 23 _ _ rfl rfl w6.heap.size p.A rfl rfl _ #[.int .i64 0, .int .i64 0] w6 rfl rfl rfl (by kernel_rfl) (by kernel_rfl) ?_) | (refine wpList_row_g rfl 23 _ rfl _ rfl _ _ _ _ z6 Try.underlying23 rfl (by kernel_rfl) ?_))
        refine (hot _).mono ?_; rintro e w7 ⟨rfl, hb⟩
        have b7 := b6'.trans (hb.mono b6'.size); have y7 := y6.below hb y6.lt; have z7 := z6.below hb z6.lt; have x7 := x6.below hb x6.lt
        clear hb b6' y6 z6 x6 hot
        go_wp2_with (first | (refine wpList_row_g rfl 23 _ rfl _ rfl _ _ _ _ x7 Try.underlying23 rfl (by kernel_rfl) ?_) | (refine wpList_row_g rfl 23 _ rfl _ rfl _ _ _ _ y7 Try.underlying23 rfl (by kernel_rfl) ?_))
        go_meet
        exact b7
      · have e3 : txtE ⟨o.la, o.lo⟩ = 0 := by unfold txtE; rw [if_pos (show P2.ok ⟨o.la, o.lo⟩ = true from hok)]
        have e4 : txtT ⟨o.la, o.lo⟩ = pT o := by unfold txtT; rw [if_pos (show P2.ok ⟨o.la, o.lo⟩ = true from hok)]
        simp only [e3, e4] at hot
        clear e3 e4
        by_cases heq : p = o
        · subst heq
          go_wp2_with (first | (refine wpList_store_new rfl 23 _ _ rfl rfl w6.heap.size p.A rfl rfl _ #[.int .i64 0, .int .i64 0] w6 rfl rfl rfl (by kernel_rfl) (by kernel_rfl) ?_) | (refine wpList_row_g rfl 23 _ rfl _ rfl _ _ _ _ z6 Try.underlying23 rfl (by kernel_rfl) ?_))
          refine (hot _).mono ?_; rintro e w7 ⟨rfl, hb⟩
          have b7 := b6'.trans (hb.mono b6'.size); have y7 := y6.below hb y6.lt; have z7 := z6.below hb z6.lt; have x7 := x6.below hb x6.lt
          clear hb b6' y6 z6 x6 hot
          go_wp2_with (first | (refine wpList_row_g rfl 23 _ rfl _ rfl _ _ _ _ x7 Try.underlying23 rfl (by kernel_rfl) ?_) | (refine wpList_row_g rfl 23 _ rfl _ rfl _ _ _ _ y7 Try.underlying23 rfl (by kernel_rfl) ?_) | (refine wpList_row_g rfl 23 _ rfl _ rfl _ _ _ _ z7 Try.underlying23 rfl (by kernel_rfl) ?_))
          go_meet
          exact b7
        · have hT : (pT p == pT o) = false := by rw [beq_eq_false_iff_ne]; exact fun q => heq ((Pt.pT_inj hpk hok).1 q)
          by_cases hla : p.la = o.la
          · have hlo : ¬ p.lo = o.lo := fun q => heq (by cases p; cases o; simp only at hla q; rw [hla, q])
            have hl1 : (p.la == o.la) = true := by simp [hla]
            have hl2 : (p.lo == o.lo) = false := by simp [hlo]
            clear heq
            go_wp2_with (first | (refine wpList_store_new rfl 23 _ _ rfl rfl w6.heap.size p.A rfl rfl _ #[.int .i64 0, .int .i64 0] w6 rfl rfl rfl (by kernel_rfl) (by kernel_rfl) ?_) | (refine wpList_row_g rfl 23 _ rfl _ rfl _ _ _ _ z6 Try.underlying23 rfl (by kernel_rfl) ?_))
            refine (hot _).mono ?_; rintro e w7 ⟨rfl, hb⟩
            have b7 := b6'.trans (hb.mono b6'.size); have y7 := y6.below hb y6.lt; have z7 := z6.below hb z6.lt; have x7 := x6.below hb x6.lt
            clear hb b6' y6 z6 x6 hot
            go_wp2_with (first | (refine wpList_row_g rfl 23 _ rfl _ rfl _ _ _ _ x7 Try.underlying23 rfl (by kernel_rfl) ?_) | (refine wpList_row_g rfl 23 _ rfl _ rfl _ _ _ _ y7 Try.underlying23 rfl (by kernel_rfl) ?_) | (refine wpList_row_g rfl 23 _ rfl _ rfl _ _ _ _ z7 Try.underlying23 rfl (by kernel_rfl) ?_))
            all_goals first
              | (go_meet; exact b7)
              | (exfalso; simp_all)
          · have hl1 : (p.la == o.la) = false := by simp [hla]
            clear heq
            go_wp2_with (first | (refine wpList_store_new rfl 23 _ _ rfl rfl w6.heap.size p.A rfl rfl _ #[.int .i64 0, .int .i64 0] w6 rfl rfl rfl (by kernel_rfl) (by kernel_rfl) ?_) | (refine wpList_row_g rfl 23 _ rfl _ rfl _ _ _ _ z6 Try.underlying23 rfl (by kernel_rfl) ?_))
            refine (hot _).mono ?_; rintro e w7 ⟨rfl, hb⟩
            have b7 := b6'.trans (hb.mono b6'.size); have y7 := y6.below hb y6.lt; have z7 := z6.below hb z6.lt; have x7 := x6.below hb x6.lt
            clear hb b6' y6 z6 x6 hot
            go_wp2_with (first | (refine wpList_row_g rfl 23 _ rfl _ rfl _ _ _ _ x7 Try.underlying23 rfl (by kernel_rfl) ?_) | (refine wpList_row_g rfl 23 _ rfl _ rfl _ _ _ _ y7 Try.underlying23 rfl (by kernel_rfl) ?_) | (refine wpList_row_g rfl 23 _ rfl _ rfl _ _ _ _ z7 Try.underlying23 rfl (by kernel_rfl) ?_))
            all_goals first
              | (go_meet; exact b7)
              | (exfalso; simp_all)
    · have e1 : E = 2 := by rw [← HE.out]; unfold txtE; rw [if_neg (show ¬ P2.ok ⟨p.la, p.lo⟩ = true from hpk)]
      subst e1
      go_wp2_with fail
      go_meet
      exact b5
  case rest =>
  clear y5 z5 b5 HE HX
  have b6 := hcut
  have hpt := fun W => point_at t W
  obtain ⟨E, hE⟩ : ∃ E, ptE (L t) = E := ⟨_, rfl⟩
  obtain ⟨V, hV⟩ : ∃ V, ptV (L t) = V := ⟨_, rfl⟩
  simp only [hE, hV] at hpt
  have HE := Lib.hid hE; have HV := Lib.hid hV
  clear hE hV hcut
  go_wp2_with fail
  refine (hpt _).mono ?_; rintro e w7 ⟨rfl, hb⟩
  have b7 := b6.trans (hb.mono b6.size)
  have b8 := b7.alloc b7.size (.cells V.A 23); have x8 := Blk.new w7 23 V.A
  clear b6 hb hpt b7
  go_upto_if 85 with (refine wpList_store_new rfl 23 _ _ rfl rfl w7.heap.size V.A rfl rfl _ #[.int .i64 0, .int .i64 0] w7 rfl rfl rfl (by kernel_rfl) (by kernel_rfl) ?_)
  go_cut [] (fun wx => Below w.heap.size w wx)
  case first =>
    by_cases hz : E = 0
    · subst hz
      obtain ⟨k1, k2⟩ := ptV_ok HE.out
      rw [HV.out] at k1 k2
      have hx : ∀ W, Calls Try.prog 33 #[.agg V.A] W fun e w' => e = .returned (.tuple #[.string t, .int .i64 0]) ∧ Below W.heap.size W w' := fun W => by
        have h := ptext_any V.la V.lo W
        rw [show txtT ⟨V.la, V.lo⟩ = L t by unfold txtT; rw [if_pos (show P2.ok ⟨V.la, V.lo⟩ = true from k1)]; exact k2, show txtE ⟨V.la, V.lo⟩ = 0 by unfold txtE; rw [if_pos (show P2.ok ⟨V.la, V.lo⟩ = true from k1)], Scn.B_L] at h
        exact h
      clear k1 k2
      go_wp2_with (refine wpList_row_g rfl 23 _ rfl _ rfl _ _ _ _ x8 Try.underlying23 rfl (by kernel_rfl) ?_)
      refine (hx _).mono ?_; rintro e w9 ⟨rfl, hb⟩
      go_wp2_with fail
      go_meet
      exact b8.trans (hb.mono b8.size)
    · have hz1 : (E == 0) = false := by simp [hz]
      go_wp2_with fail
      go_meet
      exact b8
  case rest =>
  clear x8 b8 HE HV
  have b6 := hcut
  have htx := ptx_any A n c l wc ((hR.below b6).more b6.size) hm
  obtain ⟨E, hE⟩ : ∃ E, pcE l = E := ⟨_, rfl⟩
  obtain ⟨X, hX⟩ : ∃ X, B (if pcE l = 0 then txtL l else []) = X := ⟨_, rfl⟩
  rw [hX, hE] at htx
  have HE := Lib.hid hE; have HX := Lib.hid hX
  clear hE hX hcut
  obtain ⟨W6, rfl⟩ : ∃ W : World, W = wc := ⟨_, rfl⟩
  go_wp2_with fail
  refine htx.mono ?_; rintro e w7 ⟨rfl, hb⟩
  have b7 := b6.trans (hb.mono b6.size)
  clear b6 hb htx
  go_upto_if 104 with fail
  go_cut [] (fun wx => Below w.heap.size w wx)
  case first =>
    by_cases hz : E = 0
    · subst hz
      have hX := HX.out
      rw [if_pos HE.out] at hX
      subst hX
      have hlen := txt_len l (pcE_mem HE.out).2
      have hpa := par_any (B (txtL l)) w7 (by rw [B_len]; omega)
      rw [L_B, txt_back HE.out] at hpa
      go_wp2_with fail
      refine hpa.mono ?_
      rintro e w8 ⟨hb, A8, n8, c8, rfl, hP8⟩
      obtain rfl : l.length = n8 := hP8.len
      have b8 := b7.trans (hb.mono b7.size)
      have z9 := Blk.new w8 55 (faC 0 0 0)
      have b9 := b8.alloc b8.size (.cells (faC 0 0 0) 55)
      have hP9 := pcs_alloc hP8 (.cells (faC 0 0 0) 55)
      have hsm := same_pc A8 A l.length n c8 c l _ hP9 ((hR.below b9).more b9.size) (by unfold maxLen; omega)
      clear b7 hb hpa hP8 hP9 b8
      go_wp2_with (first | (refine wpList_store_new rfl 55 _ _ rfl rfl w8.heap.size (faC 0 0 0) rfl rfl _ (faC 0 0 0) w8 rfl rfl rfl (by kernel_rfl) (by kernel_rfl) ?_) | (refine wpList_row_g rfl 55 _ rfl _ rfl _ _ _ _ z9 Try.underlying55 rfl (by kernel_rfl) ?_))
      refine hsm.mono ?_; rintro e w10 ⟨rfl, hb⟩
      go_wp2_with fail
      go_meet
      exact b9.trans (hb.mono b9.size)
    · have hz1 : (E == 0) = false := by simp [hz]
      go_wp2_with fail
      go_meet
      exact b7
  case rest =>
  clear b7 HE HX
  have b6 := hcut
  have hpa := par_any s wc (by omega)
  cases hv : parV (L s) with
  | bad ln cl y =>
    rw [hv] at hpa
    obtain ⟨k1, k2, k3⟩ := parV_fine hv
    have m1 : (1 : Int) ≤ (ln : Int) := by omega
    have m2 : (1 : Int) ≤ (cl : Int) := by omega
    have e1 : ((ln : Int) == 0) = false := by rw [beq_eq_false_iff_ne]; omega
    clear hcut hv
    go_wp2_with fail
    refine hpa.mono ?_
    rintro e w8 ⟨hb, rfl⟩
    have b8 := b6.trans (hb.mono b6.size)
    have z9 := Blk.new w8 55 (faC (ln : Int) (cl : Int) y)
    have d0 : (w8.alloc (.cells (faC (ln : Int) (cl : Int) y) 55)).cell? ⟨w8.heap.size, 0, none⟩ = some (.int .i64 (ln : Int)) := z9.cell 0
    have d1 : (w8.alloc (.cells (faC (ln : Int) (cl : Int) y) 55)).cell? ⟨w8.heap.size, 1, none⟩ = some (.int .i64 (cl : Int)) := z9.cell 1
    have b9 := b8.alloc b8.size (.cells (faC (ln : Int) (cl : Int) y) 55)
    clear b6 hb hpa b8
    go_wp2_with (first | (refine wpList_store_new rfl 55 _ _ rfl rfl w8.heap.size (faC (ln : Int) (cl : Int) y) rfl rfl _ (faC 0 0 0) w8 rfl rfl rfl (by kernel_rfl) (by kernel_rfl) ?_) | (refine wpList_row_g rfl 55 _ rfl _ rfl _ _ _ _ z9 Try.underlying55 rfl (by kernel_rfl) ?_))
    go_ret
    exact ⟨rfl, b9⟩
  | ok l2 =>
    rw [hv] at hpa
    have hr := parV_right hv
    clear hcut hv
    go_wp2_with fail
    refine hpa.mono ?_
    rintro e w8 ⟨hb, A8, n8, c8, rfl, hP8⟩
    have hn8 : n8 ≤ maxLen := by have := (pcE_mem hr).1; rw [hP8.len] at this; unfold maxLen; omega
    have b8 := b6.trans (hb.mono b6.size)
    have z9 := Blk.new w8 55 (faC 0 0 0)
    have b9 := b8.alloc b8.size (.cells (faC 0 0 0) 55)
    have hck := pcheck_any A8 n8 c8 l2 _ (pcs_alloc hP8 (.cells (faC 0 0 0) 55)) hn8
    rw [hr] at hck
    clear b6 hb hpa hP8 b8 hn8 hr
    go_wp2_with (first | (refine wpList_store_new rfl 55 _ _ rfl rfl w8.heap.size (faC 0 0 0) rfl rfl _ (faC 0 0 0) w8 rfl rfl rfl (by kernel_rfl) (by kernel_rfl) ?_) | (refine wpList_row_g rfl 55 _ rfl _ rfl _ _ _ _ z9 Try.underlying55 rfl (by kernel_rfl) ?_))
    refine hck.mono ?_; rintro e w10 ⟨rfl, hb⟩
    go_wp2_with fail
    go_ret
    exact ⟨rfl, b9.trans (hb.mono b9.size)⟩
end Go.Proofs.Ytoiccljmdplfgaa.Nr
