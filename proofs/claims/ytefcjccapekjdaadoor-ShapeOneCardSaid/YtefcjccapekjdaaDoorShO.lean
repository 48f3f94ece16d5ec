/-
  ShapeOne, WALKED.
-/
import Derived.Test.YtefcjccapekjdaaDoorShV
import Derived.Test.YtefcjccapekjdaaDoorSpE
namespace Go.Proofs.YtefcjccapekjdaaDoor.Sh
open Go.ChangeShapes Go.WideShapes Go.ChangeAt Go.RowKit
open Go.Proofs.YtefcjccapekjdaaDoor
open Go.Proofs.YtefcjccapekjdaaDoor.Wd
open Go.Proofs.YtefcjccapekjdaaDoor.Rec
open Go.Proofs.YtefcjccapekjdaaDoor.Yr
open Go.Proofs.YtefcjccapekjdaaDoor.Tb
open Go.Proofs.YtefcjccapekjdaaDoor.Civ (Tab Inv)
set_option linter.unusedVariables false
set_option linter.unusedSimpArgs false
attribute [local go_sem ↓] ldR_sem ldS_sem
attribute [local go_sem] ldSem_run
/-- what is known of the forms of a stamp -/
structure FmAt (l : List St) (s : St) (Y : Int) (k : Nat) : Prop where
  f : Form (l.getD k St.nil) s Y
  y0 : k + 1 ≠ l.length → (l.getD k St.nil).y = 0
  yY : k + 1 = l.length → (l.getD k St.nil).y = Y
  ne : ∀ m, k = m + 1 → l.getD k St.nil ≠ l.getD m St.nil
theorem fm_len {s : St} {Y : Int} (t : Told s Y) : 2 ≤ (fmL s Y).length ∧ (fmL s Y).length ≤ 3 := by
  have a := t.d1; have b := t.d2; have c := t.l2
  unfold fmL
  by_cases h1 : (dS s Y - 1) / 7 + 1 < 5
  · rw [if_pos h1]; split <;> simp
  · rw [if_neg h1, if_pos (by omega)]; simp
theorem fm_y {s : St} {Y y d y' d' : Int} (h : y ≠ y' ∨ d ≠ d') : fm s Y y d ≠ fm s Y y' d' := fun e => by
  have e1 : (fm s Y y d).y = (fm s Y y' d').y := by rw [e]
  have e2 : (fm s Y y d).d = (fm s Y y' d').d := by rw [e]
  change y = y' at e1; change d = d' at e2
  omega
theorem fm_at {s : St} {Y : Int} (B : s.Bd) (he : leS s Y = 0) {k : Nat} (hk : k < (fmL s Y).length) : FmAt (fmL s Y) s Y k := by
  have t := told_of B he
  have a := t.d1; have b := t.d2; have c := t.l2; have d := t.e1
  have hf : Form ((fmL s Y).getD k St.nil) s Y := by
    rw [List.getD_eq_getElem?_getD, List.getElem?_eq_getElem hk]
    exact fmL_ok B he _ (List.getElem_mem hk)
  have hg : ∀ l : List St, fmL s Y = l → (k < l.length → (∀ j, j < l.length → j + 1 ≠ l.length → (l.getD j St.nil).y = 0) → (∀ j, j + 1 = l.length → (l.getD j St.nil).y = Y) → (∀ j m, j < l.length → j = m + 1 → l.getD j St.nil ≠ l.getD m St.nil) → FmAt (fmL s Y) s Y k) := by
    intro l e hk' h1 h2 h3
    subst e
    exact ⟨hf, h1 k hk', h2 k, fun m => h3 k m hk'⟩
  by_cases h1 : (dS s Y - 1) / 7 + 1 < 5
  · by_cases h2 : Cal.mlen Y s.m - 7 < dS s Y
    · refine hg [fm s Y 0 ((dS s Y - 1) / 7 + 1), fm s Y 0 5, fm s Y Y (dS s Y)] (by unfold fmL; rw [if_pos h1, if_pos h2]; rfl) (by unfold fmL at hk; rw [if_pos h1, if_pos h2] at hk; exact hk) ?_ ?_ ?_
      · intro j hj hn
        match j, hj with
        | 0, _ => rfl
        | 1, _ => rfl
        | 2, _ => exact absurd rfl hn
      · intro j hj
        obtain rfl : j = 2 := by simpa using hj
        rfl
      · intro j m hj e
        match j, hj with
        | 0, _ => omega
        | 1, _ => obtain rfl : m = 0 := by omega
                  exact fm_y (.inr (by omega))
        | 2, _ => obtain rfl : m = 1 := by omega
                  exact fm_y (.inl (by omega))
    · refine hg [fm s Y 0 ((dS s Y - 1) / 7 + 1), fm s Y Y (dS s Y)] (by unfold fmL; rw [if_pos h1, if_neg h2]; rfl) (by unfold fmL at hk; rw [if_pos h1, if_neg h2] at hk; exact hk) ?_ ?_ ?_
      · intro j hj hn
        match j, hj with
        | 0, _ => rfl
        | 1, _ => exact absurd rfl hn
      · intro j hj
        obtain rfl : j = 1 := by simpa using hj
        rfl
      · intro j m hj e
        match j, hj with
        | 0, _ => omega
        | 1, _ => obtain rfl : m = 0 := by omega
                  exact fm_y (.inl (by omega))
  · have h2 : Cal.mlen Y s.m - 7 < dS s Y := by omega
    refine hg [fm s Y 0 5, fm s Y Y (dS s Y)] (by unfold fmL; rw [if_neg h1, if_pos h2]; rfl) (by unfold fmL at hk; rw [if_neg h1, if_pos h2] at hk; exact hk) ?_ ?_ ?_
    · intro j hj hn
      match j, hj with
      | 0, _ => rfl
      | 1, _ => exact absurd rfl hn
    · intro j hj
      obtain rfl : j = 1 := by simpa using hj
      rfl
    · intro j m hj e
      match j, hj with
      | 0, _ => omega
      | 1, _ => obtain rfl : m = 0 := by omega
                exact fm_y (.inl (by omega))
/-- a stamp of a year has a time in no other one -/
theorem le_year {x : St} {Z : Int} (hy : x.y ≠ 0) (h : leS x Z = 0) : Z = x.y := by
  unfold leS Stp.dtE at h
  split at h
  · cases h
  split at h
  · cases h
  split at h
  · cases h
  rename_i h1 h2 h3
  unfold Stp.noneS at h3
  by_cases e : Z = x.y
  · exact e
  · exfalso; apply h3; simp; right; omega
theorem tk_mk {w W : World} {gx gr n2 : Nat} {A1 A2 : Option Addr} {l : List Sp} {x r : Rc} (iv : Inv w W) (hL : Ft.Spans W W.heap.size A1 n2 l) (hM : Ft.Spans W W.heap.size A2 n2 l) (hx : Blk W gx 26 (rcA x.b x.c x.d x.p x.q)) (hr : Blk W gr 26 (rcA r.b r.c r.d r.p r.q)) :
    Inv w W ∧ Ft.Spans W W.heap.size A1 n2 l ∧ Ft.Spans W W.heap.size A2 n2 l ∧ Blk W gx 26 (rcA x.b x.c x.d x.p x.q) ∧ Blk W gr 26 (rcA r.b r.c r.d r.p r.q) ∧ ldT 26 (.pointer (some ⟨gx, 0, none⟩)) W = some (rcA x.b x.c x.d x.p x.q) ∧ ldT 26 (.pointer (some ⟨gr, 0, none⟩)) W = some (rcA r.b r.c r.d r.p r.q) :=
  ⟨iv, hL, hM, hx, hr, ldT_of (ld_seg hx Tryd.underlying26 rfl (by kernel_rfl) (by kernel_rfl)), ldT_of (ld_seg hr Tryd.underlying26 rfl (by kernel_rfl) (by kernel_rfl))⟩
theorem tk_on {w W W2 : World} {gx gr n2 : Nat} {A1 A2 : Option Addr} {l : List Sp} {x r : Rc} (h : Inv w W ∧ Ft.Spans W W.heap.size A1 n2 l ∧ Ft.Spans W W.heap.size A2 n2 l ∧ Blk W gx 26 (rcA x.b x.c x.d x.p x.q) ∧ Blk W gr 26 (rcA r.b r.c r.d r.p r.q) ∧ ldT 26 (.pointer (some ⟨gx, 0, none⟩)) W = some (rcA x.b x.c x.d x.p x.q) ∧ ldT 26 (.pointer (some ⟨gr, 0, none⟩)) W = some (rcA r.b r.c r.d r.p r.q)) (hb : Below W.heap.size W W2) :
    Inv w W2 ∧ Ft.Spans W2 W2.heap.size A1 n2 l ∧ Ft.Spans W2 W2.heap.size A2 n2 l ∧ Blk W2 gx 26 (rcA x.b x.c x.d x.p x.q) ∧ Blk W2 gr 26 (rcA r.b r.c r.d r.p r.q) ∧ ldT 26 (.pointer (some ⟨gx, 0, none⟩)) W2 = some (rcA x.b x.c x.d x.p x.q) ∧ ldT 26 (.pointer (some ⟨gr, 0, none⟩)) W2 = some (rcA r.b r.c r.d r.p r.q) := by
  obtain ⟨iv, hL, hM, hx, hr, _⟩ := h
  exact tk_mk (iv.call hb) ((hL.below hb).more hb.size) ((hM.below hb).more hb.size) (hx.below hb hx.lt) (hr.below hb hr.lt)
set_option maxRecDepth 100000 in
set_option maxHeartbeats 6400000 in
theorem one_no (s : St) (Y Z : Int) (r o : Rc) (w : World) (hT : Tab w) (E0 : Int) (h0 : E0 ≠ 0) (hfm : ∀ w, Tab w → Calls Tryd.prog 63 #[.agg (sA s), .int .i64 Y] w fun e w' => e = .returned (.tuple #[.slice none 0 0, .int .i64 E0]) ∧ Below w.heap.size w w')
    (x : Rc) (l : List Sp) (nl : Nat) (hnl : nl ≤ 3) (E K : Int)
    (hsr : ∀ w, Tab w → Calls Tryd.prog 75 #[r.V, .int .i64 Y] w fun e w' => ∃ A n c, e = .returned (.tuple #[.slice A n c, .int .i64 E]) ∧ n = nl ∧ Ft.Spans w' w'.heap.size A n l ∧ Below w.heap.size w w')
    (hsx : ∀ w, Tab w → Calls Tryd.prog 75 #[x.V, .int .i64 Y] w fun e w' => ∃ A n c, e = .returned (.tuple #[.slice A n c, .int .i64 E]) ∧ n = nl ∧ Ft.Spans w' w'.heap.size A n l ∧ Below w.heap.size w w')
    (hrc : ∀ w, Tab w → Calls Tryd.prog 71 #[r.V, o.V, .int .i64 Y] w fun e w' => e = .returned x.V ∧ Below w.heap.size w w')
    (hkr : ∀ w, Tab w → Calls Tryd.prog 24 #[r.V] w fun e w' => e = .returned (.int .i64 K) ∧ Below w.heap.size w w')
    (hkx : ∀ w, Tab w → Calls Tryd.prog 24 #[x.V] w fun e w' => e = .returned (.int .i64 K) ∧ Below w.heap.size w w') :
    Calls Tryd.prog 14 #[.agg (sA s), .int .i64 Y, .int .i64 Z, r.V, o.V] w fun e w' => e = .returned (.bool true) ∧ Below w.heap.size w w' := by
  have i0 := Inv.start hT
  have eb : (E0 == 0) = false := by rw [beq_eq_false_iff_ne]; exact h0
  go_enter Tryd.func14, Tryd.ntmps14
  go_wp2_with fail
  have s_1 := (((Wd.Blk.new w 24 (sA s)).alloc (.cells (rcA r.b r.c r.d r.p r.q) 26)).alloc (.cells (rcA o.b o.c o.d o.p o.q) 26))
  have r_1 := ((blk_at (w.alloc (.cells (sA s) 24)) 26 (rcA r.b r.c r.d r.p r.q) (sz1 _ _ rfl)).alloc (.cells (rcA o.b o.c o.d o.p o.q) 26))
  have o_1 := (blk_at ((w.alloc (.cells (sA s) 24)).alloc (.cells (rcA r.b r.c r.d r.p r.q) 26)) 26 (rcA o.b o.c o.d o.p o.q) (sz1 _ _ (sz1 _ _ rfl)))
  have inv_1 := (((i0.alloc (.cells (sA s) 24)).alloc (.cells (rcA r.b r.c r.d r.p r.q) 26)).alloc (.cells (rcA o.b o.c o.d o.p o.q) 26))
  refine (lives_any _ inv_1.1).mono ?_; rintro e w_1 ⟨rfl, hb_1⟩
  have sc_1 := s_1.below hb_1 s_1.lt; clear s_1
  have rc_1 := r_1.below hb_1 r_1.lt; clear r_1
  have oc_1 := o_1.below hb_1 o_1.lt; clear o_1
  have invc_1 := inv_1.call hb_1; clear inv_1
  clear hb_1
  go_wp2_with (first | refine wpList_row_g rfl 24 _ rfl _ rfl _ _ _ _ sc_1 Tryd.underlying24 rfl (by kernel_rfl) ?_)
  have s_2 := sc_1
  have r_2 := rc_1
  have o_2 := oc_1
  have inv_2 := invc_1
  refine (hfm _ inv_2.1).mono ?_; rintro e w_2 ⟨rfl, hb_2⟩
  have sc_2 := s_2.below hb_2 s_2.lt; clear s_2
  have rc_2 := r_2.below hb_2 r_2.lt; clear r_2
  have oc_2 := o_2.below hb_2 o_2.lt; clear o_2
  have invc_2 := inv_2.call hb_2; clear inv_2
  clear hb_2
  go_wp2_with (first | refine wpList_row_g rfl 26 _ rfl _ rfl _ _ _ _ rc_2 Tryd.underlying26 rfl (by kernel_rfl) ?_)
  have s_3 := sc_2
  have r_3 := rc_2
  have o_3 := oc_2
  have inv_3 := invc_2
  refine (hsr _ inv_3.1).mono ?_; rintro e w_3 ⟨A1, n1, c1, rfl, en1, L_3, hb_3⟩
  have sc_3 := s_3.below hb_3 s_3.lt; clear s_3
  have rc_3 := r_3.below hb_3 r_3.lt; clear r_3
  have oc_3 := o_3.below hb_3 o_3.lt; clear o_3
  have invc_3 := inv_3.call hb_3; clear inv_3
  subst en1
  clear hb_3
  go_wp2_with (first | refine wpList_row_g rfl 26 _ rfl _ rfl _ _ _ _ rc_3 Tryd.underlying26 rfl (by kernel_rfl) ?_ | refine wpList_row_g rfl 26 _ rfl _ rfl _ _ _ _ oc_3 Tryd.underlying26 rfl (by kernel_rfl) ?_)
  have s_4 := sc_3
  have r_4 := rc_3
  have o_4 := oc_3
  have inv_4 := invc_3
  have Ld_4 := L_3
  refine (hrc _ inv_4.1).mono ?_; rintro e w_4 ⟨rfl, hb_4⟩
  have sc_4 := s_4.below hb_4 s_4.lt; clear s_4
  have rc_4 := r_4.below hb_4 r_4.lt; clear r_4
  have oc_4 := o_4.below hb_4 o_4.lt; clear o_4
  have Lc_4 := (Ld_4.below hb_4).more hb_4.size; clear Ld_4
  have invc_4 := inv_4.call hb_4; clear inv_4
  clear hb_4
  go_wp2_with (first | refine wpList_store_new rfl 26 _ _ rfl rfl w_4.heap.size (rcA x.b x.c x.d x.p x.q) rfl rfl _ #[.int .i32 0, .int .i32 0, .int .i32 0, .int .u16 0, .int .u16 0, .int .u16 0, .int .u16 0, .int .u16 0, .int .u16 0, .int .u16 0, .int .u16 0, .int .u16 0, .int .u16 0, .int .u16 0, .int .u16 0, .int .u16 0, .int .u16 0, .int .u16 0, .int .u16 0] w_4 rfl rfl rfl (by kernel_rfl) (by kernel_rfl) ?_ | refine wpList_row_g rfl 26 _ rfl _ rfl _ _ _ _ (Wd.Blk.new w_4 26 (rcA x.b x.c x.d x.p x.q)) Tryd.underlying26 rfl (by kernel_rfl) ?_)
  have s_5 := (sc_4.alloc (.cells (rcA x.b x.c x.d x.p x.q) 26))
  have r_5 := (rc_4.alloc (.cells (rcA x.b x.c x.d x.p x.q) 26))
  have o_5 := (oc_4.alloc (.cells (rcA x.b x.c x.d x.p x.q) 26))
  have x_5 := (Wd.Blk.new w_4 26 (rcA x.b x.c x.d x.p x.q))
  have inv_5 := (invc_4.alloc (.cells (rcA x.b x.c x.d x.p x.q) 26))
  have Ld_5 := ((Lc_4.below (Below.alloc (Below.refl (w_4).heap.size (w_4)) (Nat.le_refl _) (.cells (rcA x.b x.c x.d x.p x.q) 26))).more (Below.alloc (Below.refl (w_4).heap.size (w_4)) (Nat.le_refl _) (.cells (rcA x.b x.c x.d x.p x.q) 26)).size)
  refine (hsx _ inv_5.1).mono ?_; rintro e w_5 ⟨A2, n2, c2, rfl, en2, M_5, hb_5⟩
  have sc_5 := s_5.below hb_5 s_5.lt; clear s_5
  have rc_5 := r_5.below hb_5 r_5.lt; clear r_5
  have oc_5 := o_5.below hb_5 o_5.lt; clear o_5
  have xc_5 := x_5.below hb_5 x_5.lt; clear x_5
  have Lc_5 := (Ld_5.below hb_5).more hb_5.size; clear Ld_5
  have invc_5 := inv_5.call hb_5; clear inv_5
  subst en2
  clear hb_5
  have eE : (E == E) = true := by simp
  have eK : (K == K) = true := by simp
  go_upto_region 21 with fail
  have s_6 := sc_5
  have r_6 := rc_5
  have o_6 := oc_5
  have x_6 := xc_5
  have inv_6 := invc_5
  have Ld_6 := Lc_5
  have Md_6 := M_5
  have hx := x_6; have hr := r_6; have iv := inv_6; have hL := Ld_6; have hM := Md_6
  clear s_6 r_6 o_6 x_6 inv_6 Ld_6 Md_6 hsr hsx hrc i0
  have hk : ∀ (v : Value) (w : World), (v = x.V ∨ v = r.V) → Tab w → Calls Tryd.prog 24 #[v] w fun e w' => e = .returned (.int .i64 K) ∧ Below w.heap.size w w' := fun v w h hT => by
    rcases h with rfl | rfl
    · exact hkx w hT
    · exact hkr w hT
  clear hkx hkr
  generalize hgx : w_4.heap.size = gx at *
  generalize hgr : w.heap.size + 1 = gr at *
  clear hgr
  clear hgx
  have ZZ := Lib.hid (tk_mk iv.drew hL hM hx hr); clear iv hL hM hx hr
  first | (go_region_held3 (fun w' => Inv w w' ∧ Ft.Spans w' w'.heap.size A1 n2 l ∧ Ft.Spans w' w'.heap.size A2 n2 l ∧ Blk w' gx 26 (rcA x.b x.c x.d x.p x.q) ∧ Blk w' gr 26 (rcA r.b r.c r.d r.p r.q) ∧ ldT 26 (.pointer (some ⟨gx, 0, none⟩)) w' = some (rcA x.b x.c x.d x.p x.q) ∧ ldT 26 (.pointer (some ⟨gr, 0, none⟩)) w' = some (rcA r.b r.c r.d r.p r.q))
    (first | exact ZZ.out | exact tk_on (by assumption) hbl)
    (first | (go_at_call 47; refine (Ft.same_eq _ _ _ _ _ l _ (by go_split_ands; assumption) (by go_split_ands; assumption) (by unfold maxLen; omega)).mono ?_; rintro e w' ⟨rfl, hbl⟩) | (go_at_call 24; refine (hk _ _ (by first | exact Or.inl rfl | exact Or.inr rfl) (show Inv w _ by go_split_ands; assumption).1).mono ?_; rintro e w' ⟨rfl, hbl⟩))) | fail
  rename_i hH
  have hbel := hH.1.2; clear hH ZZ
  go_wp2_with fail
  go_ret
  exact ⟨rfl, hbel⟩
theorem rk_mk0 {w W : World} {gr go gx g NP : Nat} {P : List St} {r o : Rc} {x0 : St} (iv : Inv w W) (hr : Blk W gr 26 (rcA r.b r.c r.d r.p r.q)) (ho : Blk W go 26 (rcA o.b o.c o.d o.p o.q)) (hs : Stamps W W.heap.size (some ⟨g, 0, none⟩) NP P) (hx : Blk W gx 24 (sA x0)) :
    Inv w W ∧ Blk W gr 26 (rcA r.b r.c r.d r.p r.q) ∧ Blk W go 26 (rcA o.b o.c o.d o.p o.q) ∧ Stamps W W.heap.size (some ⟨g, 0, none⟩) NP P ∧ Blk W gx 24 (sA x0) ∧ ldT 24 (.pointer (some ⟨gx, 0, none⟩)) W = some (sA x0) ∧ W.cell? ⟨gx, 0, none⟩ = some (.int .u16 x0.y) :=
  ⟨iv, hr, ho, hs, hx, ldT_of (ld_seg hx Tryd.underlying24 rfl (by kernel_rfl) (by kernel_rfl)), hx.cell 0⟩
theorem rk_on0 {w W W2 : World} {gr go gx g NP : Nat} {P : List St} {r o : Rc} {x0 : St} (h : Inv w W ∧ Blk W gr 26 (rcA r.b r.c r.d r.p r.q) ∧ Blk W go 26 (rcA o.b o.c o.d o.p o.q) ∧ Stamps W W.heap.size (some ⟨g, 0, none⟩) NP P ∧ Blk W gx 24 (sA x0) ∧ ldT 24 (.pointer (some ⟨gx, 0, none⟩)) W = some (sA x0) ∧ W.cell? ⟨gx, 0, none⟩ = some (.int .u16 x0.y)) (hb : Below W.heap.size W W2) :
    Inv w W2 ∧ Blk W2 gr 26 (rcA r.b r.c r.d r.p r.q) ∧ Blk W2 go 26 (rcA o.b o.c o.d o.p o.q) ∧ Stamps W2 W2.heap.size (some ⟨g, 0, none⟩) NP P ∧ Blk W2 gx 24 (sA x0) ∧ ldT 24 (.pointer (some ⟨gx, 0, none⟩)) W2 = some (sA x0) ∧ W2.cell? ⟨gx, 0, none⟩ = some (.int .u16 x0.y) := by
  obtain ⟨iv, hr, ho, hs, hx, _⟩ := h
  exact rk_mk0 (iv.call hb) (hr.below hb hr.lt) (ho.below hb ho.lt) ((hs.below hb).more hb.size) (hx.below hb hx.lt)
theorem rk_mk1 {w W : World} {gr go gx g NP : Nat} {P : List St} {r o : Rc} {x0 x1 : St} (hn : 0 < NP) (he : P.getD 0 St.nil = x0) (iv : Inv w W) (hr : Blk W gr 26 (rcA r.b r.c r.d r.p r.q)) (ho : Blk W go 26 (rcA o.b o.c o.d o.p o.q)) (hs : Stamps W W.heap.size (some ⟨g, 0, none⟩) NP P) (hx : Blk W gx 24 (sA x1)) :
    Inv w W ∧ Blk W gr 26 (rcA r.b r.c r.d r.p r.q) ∧ Blk W go 26 (rcA o.b o.c o.d o.p o.q) ∧ Stamps W W.heap.size (some ⟨g, 0, none⟩) NP P ∧ Blk W gx 24 (sA x1) ∧ ldT 24 (.pointer (some ⟨gx, 0, none⟩)) W = some (sA x1) ∧ W.cell? ⟨gx, 0, none⟩ = some (.int .u16 x1.y) ∧ ldT 24 (.pointer (some ⟨g, 0, none⟩)) W = some (sA x0) :=
  ⟨iv, hr, ho, hs, hx, ldT_of (ld_seg hx Tryd.underlying24 rfl (by kernel_rfl) (by kernel_rfl)), hx.cell 0, hs.ldL 0 0 hn rfl he⟩
theorem rk_on1 {w W W2 : World} {gr go gx g NP : Nat} {P : List St} {r o : Rc} {x0 x1 : St} (hn : 0 < NP) (he : P.getD 0 St.nil = x0) (h : Inv w W ∧ Blk W gr 26 (rcA r.b r.c r.d r.p r.q) ∧ Blk W go 26 (rcA o.b o.c o.d o.p o.q) ∧ Stamps W W.heap.size (some ⟨g, 0, none⟩) NP P ∧ Blk W gx 24 (sA x1) ∧ ldT 24 (.pointer (some ⟨gx, 0, none⟩)) W = some (sA x1) ∧ W.cell? ⟨gx, 0, none⟩ = some (.int .u16 x1.y) ∧ ldT 24 (.pointer (some ⟨g, 0, none⟩)) W = some (sA x0)) (hb : Below W.heap.size W W2) :
    Inv w W2 ∧ Blk W2 gr 26 (rcA r.b r.c r.d r.p r.q) ∧ Blk W2 go 26 (rcA o.b o.c o.d o.p o.q) ∧ Stamps W2 W2.heap.size (some ⟨g, 0, none⟩) NP P ∧ Blk W2 gx 24 (sA x1) ∧ ldT 24 (.pointer (some ⟨gx, 0, none⟩)) W2 = some (sA x1) ∧ W2.cell? ⟨gx, 0, none⟩ = some (.int .u16 x1.y) ∧ ldT 24 (.pointer (some ⟨g, 0, none⟩)) W2 = some (sA x0) := by
  obtain ⟨iv, hr, ho, hs, hx, _⟩ := h
  exact rk_mk1 hn he (iv.call hb) (hr.below hb hr.lt) (ho.below hb ho.lt) ((hs.below hb).more hb.size) (hx.below hb hx.lt)
theorem rk_mk2 {w W : World} {gr go gx g NP : Nat} {P : List St} {r o : Rc} {x1 x2 : St} (hn : 1 < NP) (he : P.getD 1 St.nil = x1) (iv : Inv w W) (hr : Blk W gr 26 (rcA r.b r.c r.d r.p r.q)) (ho : Blk W go 26 (rcA o.b o.c o.d o.p o.q)) (hs : Stamps W W.heap.size (some ⟨g, 0, none⟩) NP P) (hx : Blk W gx 24 (sA x2)) :
    Inv w W ∧ Blk W gr 26 (rcA r.b r.c r.d r.p r.q) ∧ Blk W go 26 (rcA o.b o.c o.d o.p o.q) ∧ Stamps W W.heap.size (some ⟨g, 0, none⟩) NP P ∧ Blk W gx 24 (sA x2) ∧ ldT 24 (.pointer (some ⟨gx, 0, none⟩)) W = some (sA x2) ∧ W.cell? ⟨gx, 0, none⟩ = some (.int .u16 x2.y) ∧ ldT 24 (.pointer (some ⟨g, 8, none⟩)) W = some (sA x1) :=
  ⟨iv, hr, ho, hs, hx, ldT_of (ld_seg hx Tryd.underlying24 rfl (by kernel_rfl) (by kernel_rfl)), hx.cell 0, hs.ldL 1 8 hn rfl he⟩
theorem rk_on2 {w W W2 : World} {gr go gx g NP : Nat} {P : List St} {r o : Rc} {x1 x2 : St} (hn : 1 < NP) (he : P.getD 1 St.nil = x1) (h : Inv w W ∧ Blk W gr 26 (rcA r.b r.c r.d r.p r.q) ∧ Blk W go 26 (rcA o.b o.c o.d o.p o.q) ∧ Stamps W W.heap.size (some ⟨g, 0, none⟩) NP P ∧ Blk W gx 24 (sA x2) ∧ ldT 24 (.pointer (some ⟨gx, 0, none⟩)) W = some (sA x2) ∧ W.cell? ⟨gx, 0, none⟩ = some (.int .u16 x2.y) ∧ ldT 24 (.pointer (some ⟨g, 8, none⟩)) W = some (sA x1)) (hb : Below W.heap.size W W2) :
    Inv w W2 ∧ Blk W2 gr 26 (rcA r.b r.c r.d r.p r.q) ∧ Blk W2 go 26 (rcA o.b o.c o.d o.p o.q) ∧ Stamps W2 W2.heap.size (some ⟨g, 0, none⟩) NP P ∧ Blk W2 gx 24 (sA x2) ∧ ldT 24 (.pointer (some ⟨gx, 0, none⟩)) W2 = some (sA x2) ∧ W2.cell? ⟨gx, 0, none⟩ = some (.int .u16 x2.y) ∧ ldT 24 (.pointer (some ⟨g, 8, none⟩)) W2 = some (sA x1) := by
  obtain ⟨iv, hr, ho, hs, hx, _⟩ := h
  exact rk_mk2 hn he (iv.call hb) (hr.below hb hr.lt) (ho.below hb ho.lt) ((hs.below hb).more hb.size) (hx.below hb hx.lt)
set_option maxRecDepth 100000 in
set_option maxHeartbeats 6400000 in
theorem one_yes2 (s : St) (Y Z : Int) (r o : Rc) (w : World) (hT : Tab w) (P : List St) (C C2 E2 : Int)
    (hfm : ∀ w, Tab w → Calls Tryd.prog 63 #[.agg (sA s), .int .i64 Y] w fun e w' => ∃ g c, e = .returned (.tuple #[.slice (some ⟨g, 0, none⟩) 2 c, .int .i64 0]) ∧ Stamps w' w'.heap.size (some ⟨g, 0, none⟩) 2 P ∧ Below w.heap.size w w')
    (hls : ∀ w, Tab w → Calls Tryd.prog 73 #[.agg (sA s), .int .i64 Y] w fun e w' => e = .returned (.tuple #[.int .i64 C, .int .i64 0]) ∧ Below w.heap.size w w')
    (x0 x1 : St) (e0 : P.getD 0 St.nil = x0) (e1 : P.getD 1 St.nil = x1)
    (hl0 : ∀ w, Tab w → Calls Tryd.prog 73 #[.agg (sA x0), .int .i64 Y] w fun e w' => e = .returned (.tuple #[.int .i64 C, .int .i64 0]) ∧ Below w.heap.size w w')
    (hc0 : ∀ w, Tab w → Calls Tryd.prog 74 #[.agg (sA x0)] w fun e w' => e = .returned (.int .i64 0) ∧ Below w.heap.size w w')
    (hl1 : ∀ w, Tab w → Calls Tryd.prog 73 #[.agg (sA x1), .int .i64 Y] w fun e w' => e = .returned (.tuple #[.int .i64 C, .int .i64 0]) ∧ Below w.heap.size w w')
    (hc1 : ∀ w, Tab w → Calls Tryd.prog 74 #[.agg (sA x1)] w fun e w' => e = .returned (.int .i64 0) ∧ Below w.heap.size w w')
    (hlz : ∀ w, Tab w → Calls Tryd.prog 73 #[.agg (sA x1), .int .i64 Z] w fun e w' => e = .returned (.tuple #[.int .i64 C2, .int .i64 E2]) ∧ Below w.heap.size w w')
    (hz : E2 = 0 → Z = Y) (y0 : (x0.y != 0) = false) (y1 : (x1.y != 0) = true) (n0 : x1 ≠ x0)
    (x : Rc) (l : List Sp) (nl : Nat) (hnl : nl ≤ 3) (E K : Int)
    (hsr : ∀ w, Tab w → Calls Tryd.prog 75 #[r.V, .int .i64 Y] w fun e w' => ∃ A n c, e = .returned (.tuple #[.slice A n c, .int .i64 E]) ∧ n = nl ∧ Ft.Spans w' w'.heap.size A n l ∧ Below w.heap.size w w')
    (hsx : ∀ w, Tab w → Calls Tryd.prog 75 #[x.V, .int .i64 Y] w fun e w' => ∃ A n c, e = .returned (.tuple #[.slice A n c, .int .i64 E]) ∧ n = nl ∧ Ft.Spans w' w'.heap.size A n l ∧ Below w.heap.size w w')
    (hrc : ∀ w, Tab w → Calls Tryd.prog 71 #[r.V, o.V, .int .i64 Y] w fun e w' => e = .returned x.V ∧ Below w.heap.size w w')
    (hkr : ∀ w, Tab w → Calls Tryd.prog 24 #[r.V] w fun e w' => e = .returned (.int .i64 K) ∧ Below w.heap.size w w')
    (hkx : ∀ w, Tab w → Calls Tryd.prog 24 #[x.V] w fun e w' => e = .returned (.int .i64 K) ∧ Below w.heap.size w w') :
    Calls Tryd.prog 14 #[.agg (sA s), .int .i64 Y, .int .i64 Z, r.V, o.V] w fun e w' => e = .returned (.bool true) ∧ Below w.heap.size w w' := by
  have i0 := Inv.start hT
  have hCC : (C != C) = false := by simp
  have hw0 : IntKind.i64.wrap 0 = 0 := by decide
  have hw1 : IntKind.i64.wrap 1 = 1 := by decide
  have hq0 : ∀ w, (binOp .eql 24 (.agg (sA x1)) (.agg (sA x0))).run Tryd.prog w = .ok (.bool false) w := fun w => (eq_stt x1 x0 w).trans (by rw [show eqS x1 x0 = false from Bool.eq_false_iff.2 fun q => n0 (eqS_iff.1 q)])
  have EX0 := Lib.hid e0; clear e0
  have EX1 := Lib.hid e1; clear e1
  have HZ := Lib.hid hz; clear hz n0
  go_enter Tryd.func14, Tryd.ntmps14
  go_wp2_with fail
  have s_1 := (((Wd.Blk.new w 24 (sA s)).alloc (.cells (rcA r.b r.c r.d r.p r.q) 26)).alloc (.cells (rcA o.b o.c o.d o.p o.q) 26))
  have r_1 := ((blk_at (w.alloc (.cells (sA s) 24)) 26 (rcA r.b r.c r.d r.p r.q) (sz1 _ _ rfl)).alloc (.cells (rcA o.b o.c o.d o.p o.q) 26))
  have o_1 := (blk_at ((w.alloc (.cells (sA s) 24)).alloc (.cells (rcA r.b r.c r.d r.p r.q) 26)) 26 (rcA o.b o.c o.d o.p o.q) (sz1 _ _ (sz1 _ _ rfl)))
  have inv_1 := (((i0.alloc (.cells (sA s) 24)).alloc (.cells (rcA r.b r.c r.d r.p r.q) 26)).alloc (.cells (rcA o.b o.c o.d o.p o.q) 26))
  refine (lives_any _ inv_1.1).mono ?_; rintro e w_1 ⟨rfl, hb_1⟩
  have sc_1 := s_1.below hb_1 s_1.lt; clear s_1
  have rc_1 := r_1.below hb_1 r_1.lt; clear r_1
  have oc_1 := o_1.below hb_1 o_1.lt; clear o_1
  have invc_1 := inv_1.call hb_1; clear inv_1
  clear hb_1
  go_wp2_with (first | refine wpList_row_g rfl 24 _ rfl _ rfl _ _ _ _ sc_1 Tryd.underlying24 rfl (by kernel_rfl) ?_)
  have s_2 := sc_1
  have r_2 := rc_1
  have o_2 := oc_1
  have inv_2 := invc_1
  refine (hfm _ inv_2.1).mono ?_; rintro e w_2 ⟨g, cf, rfl, F_0, hb_2⟩
  have sc_2 := s_2.below hb_2 s_2.lt; clear s_2
  have rc_2 := r_2.below hb_2 r_2.lt; clear r_2
  have oc_2 := o_2.below hb_2 o_2.lt; clear o_2
  have invc_2 := inv_2.call hb_2; clear inv_2
  clear hb_2
  go_wp2_with (first | refine wpList_row_g rfl 24 _ rfl _ rfl _ _ _ _ sc_2 Tryd.underlying24 rfl (by kernel_rfl) ?_)
  have s_3 := sc_2
  have r_3 := rc_2
  have o_3 := oc_2
  have inv_3 := invc_2
  have Fd_3 := F_0
  refine (hls _ inv_3.1).mono ?_; rintro e w_3 ⟨rfl, hb_3⟩
  have sc_3 := s_3.below hb_3 s_3.lt; clear s_3
  have rc_3 := r_3.below hb_3 r_3.lt; clear r_3
  have oc_3 := o_3.below hb_3 o_3.lt; clear o_3
  have Fc_3 := (Fd_3.below hb_3).more hb_3.size; clear Fd_3
  have invc_3 := inv_3.call hb_3; clear inv_3
  clear hb_3
  have s_4 := sc_3
  have r_4 := rc_3
  have o_4 := oc_3
  have inv_4 := invc_3
  have Fd_4 := Fc_3
  have hr := r_4; have ho := o_4; have iv := inv_4; have hF := Fd_4
  clear r_4 o_4 s_4 inv_4 Fd_4 hfm hls i0
  go_wp2_with fail
  generalize hgr : w.heap.size + 1 + 1 = go at *
  generalize hgo : w.heap.size + 1 = gr at *
  clear hgr hgo
  go_loopw [56] (fun i wr => ∃ k : Int, i = .int .i64 k ∧ (k = 0 ∨ k = 1 ∨ k = 2) ∧ Inv w wr ∧ Blk wr gr 26 (rcA r.b r.c r.d r.p r.q) ∧ Blk wr go 26 (rcA o.b o.c o.d o.p o.q) ∧ Stamps wr wr.heap.size (some ⟨g, 0, none⟩) 2 P) (fun i _ => 2 - (intOf i).toNat)
  case atStart => exact ⟨0, rfl, by omega, iv, hr, ho, hF⟩
  case round =>
    clear iv hr ho hF
    obtain ⟨k, rfl, hk, iv, hr, ho, hF⟩ := hrel
    rcases hk with rfl | rfl | rfl
    · have r1 := hF.rowL 0 0 (by omega) rfl EX0.out
      go_upto_region 11 with (first | refine wpList_at_g rfl 24 _ rfl wr.heap.size _ (sA x0) rfl _ r1 Tryd.underlying24 rfl (by kernel_rfl) ?_ | refine wpList_store_new rfl 24 _ _ rfl rfl wr.heap.size (sA x0) rfl rfl _ #[.int .u16 0, .int .u16 0, .int .u16 0, .int .u16 0, .int .u16 0, .int .u16 0, .int .u16 0, .int .u16 0] wr rfl rfl rfl (by kernel_rfl) (by kernel_rfl) ?_)
      clear r1
      go_wp2_with (first | refine wpList_row_g rfl 24 _ rfl _ rfl _ _ _ _ ((Wd.Blk.new wr 24 (sA x0))) Tryd.underlying24 rfl (by kernel_rfl) ?_)
      have r_5 := (hr.alloc (.cells (sA x0) 24))
      have o_5 := (ho.alloc (.cells (sA x0) 24))
      have x_5 := (Wd.Blk.new wr 24 (sA x0))
      have inv_5 := (iv.alloc (.cells (sA x0) 24))
      have Fd_5 := ((hF.below (Below.alloc (Below.refl (wr).heap.size (wr)) (Nat.le_refl _) (.cells (sA x0) 24))).more (Below.alloc (Below.refl (wr).heap.size (wr)) (Nat.le_refl _) (.cells (sA x0) 24)).size)
      refine (hl0 _ inv_5.1).mono ?_; rintro e w_5 ⟨rfl, hb_5⟩
      have rc_5 := r_5.below hb_5 r_5.lt; clear r_5
      have oc_5 := o_5.below hb_5 o_5.lt; clear o_5
      have xc_5 := x_5.below hb_5 x_5.lt; clear x_5
      have Fc_5 := (Fd_5.below hb_5).more hb_5.size; clear Fd_5
      have invc_5 := inv_5.call hb_5; clear inv_5
      clear hb_5
      go_upto_region 12 with fail
      have r_6 := rc_5
      have o_6 := oc_5
      have x_6 := xc_5
      have inv_6 := invc_5
      have Fd_6 := Fc_5
      generalize hgx : wr.heap.size = gx at *
      clear hgx
      have ZZ := Lib.hid (rk_mk0  inv_6.drew r_6 o_6 Fd_6 x_6)
      clear inv_6 r_6 o_6 Fd_6 x_6
      refine wp_region_held_drew (S := fun w' => Inv w w' ∧ Blk w' gr 26 (rcA r.b r.c r.d r.p r.q) ∧ Blk w' go 26 (rcA o.b o.c o.d o.p o.q) ∧ Stamps w' w'.heap.size (some ⟨g, 0, none⟩) 2 P ∧ Blk w' gx 24 (sA x0) ∧ ldT 24 (.pointer (some ⟨gx, 0, none⟩)) w' = some (sA x0) ∧ w'.cell? ⟨gx, 0, none⟩ = some (.int .u16 x0.y)) (by kernel_rfl) (ZZ.out) (fun hHeld => ?_)
      refine wpAnyH_take (i := 0) (oi := { dst := some 67, op := Op.move (Operand.tmp 18), type := 30, pos := "law.go:51", after := #[], guard := none }) (v := ?_) rfl (by kernel_rfl) (by kernel_rfl) (by kernel_rfl) (fun _ _ _ h => h) (Or.inl ⟨by rfl, ?_⟩) hHeld ?_
      rotate_left
      · intro w hSw
        try dsimp only at hSw
        go_simp
        try with_reducible rfl
      try simp only [Act.put, List.setIfInBounds_toArray, List.set_cons_zero, List.set_cons_succ]
      refine wpAnyH_take (i := 1) (oi := { dst := some 68, op := Op.binOp BinOp.neq 30 (Operand.tmp 67) (Operand.const (Value.int IntKind.i64 0)) 30, type := 4, pos := "law.go:51", after := #[{ on := 0, ground := Ground.data }], guard := none }) (v := ?_) rfl (by kernel_rfl) (by kernel_rfl) (by kernel_rfl) (fun _ _ _ h => h) (Or.inl ⟨by rfl, ?_⟩) hHeld ?_
      rotate_left
      · intro w hSw
        try dsimp only at hSw
        go_simp
        try with_reducible rfl
      try simp only [Act.put, List.setIfInBounds_toArray, List.set_cons_zero, List.set_cons_succ]
      refine wpAnyH_take (i := 2) (oi := { dst := some 69, op := Op.move (Operand.tmp 68), type := 4, pos := "law.go:51", after := #[{ on := 1, ground := Ground.data }], guard := none }) (v := ?_) rfl (by kernel_rfl) (by kernel_rfl) (by kernel_rfl) (fun _ _ _ h => h) (Or.inl ⟨by rfl, ?_⟩) hHeld ?_
      rotate_left
      · intro w hSw
        try dsimp only at hSw
        go_simp
        try with_reducible rfl
      try simp only [Act.put, List.setIfInBounds_toArray, List.set_cons_zero, List.set_cons_succ]
      refine wpAnyH_take (i := 3) (oi := { dst := some 70, op := Op.move (Operand.tmp 17), type := 2, pos := "law.go:51", after := #[{ on := 2, ground := Ground.guard }], guard := some (2, false) }) (v := ?_) rfl (by kernel_rfl) (by kernel_rfl) (by kernel_rfl) (fun _ _ _ h => h) (Or.inl ⟨by rfl, ?_⟩) hHeld ?_
      rotate_left
      · intro w hSw
        try dsimp only at hSw
        go_simp
        try with_reducible rfl
      try simp only [Act.put, List.setIfInBounds_toArray, List.set_cons_zero, List.set_cons_succ]
      refine wpAnyH_take (i := 4) (oi := { dst := some 71, op := Op.move (Operand.tmp 13), type := 2, pos := "law.go:51", after := #[{ on := 2, ground := Ground.guard }], guard := some (2, false) }) (v := ?_) rfl (by kernel_rfl) (by kernel_rfl) (by kernel_rfl) (fun _ _ _ h => h) (Or.inl ⟨by rfl, ?_⟩) hHeld ?_
      rotate_left
      · intro w hSw
        try dsimp only at hSw
        go_simp
        try with_reducible rfl
      try simp only [Act.put, List.setIfInBounds_toArray, List.set_cons_zero, List.set_cons_succ]
      refine wpAnyH_take (i := 5) (oi := { dst := some 72, op := Op.binOp BinOp.neq 2 (Operand.tmp 70) (Operand.tmp 71) 2, type := 4, pos := "law.go:51", after := #[{ on := 3, ground := Ground.data }, { on := 4, ground := Ground.data }, { on := 2, ground := Ground.guard }], guard := some (2, false) }) (v := ?_) rfl (by kernel_rfl) (by kernel_rfl) (by kernel_rfl) (fun _ _ _ h => h) (Or.inl ⟨by rfl, ?_⟩) hHeld ?_
      rotate_left
      · intro w hSw
        try dsimp only at hSw
        go_simp
        try with_reducible rfl
      try simp only [Act.put, List.setIfInBounds_toArray, List.set_cons_zero, List.set_cons_succ]
      refine wpAnyH_take (i := 6) (oi := { dst := some 73, op := Op.pick (Operand.tmp 69) (Operand.const (Value.bool true)) (Operand.tmp 72), type := 4, pos := "law.go:51", after := #[{ on := 2, ground := Ground.data }, { on := 5, ground := Ground.data }], guard := none }) (v := ?_) rfl (by kernel_rfl) (by kernel_rfl) (by kernel_rfl) (fun _ _ _ h => h) (Or.inl ⟨by rfl, ?_⟩) hHeld ?_
      rotate_left
      · intro w hSw
        try dsimp only at hSw
        go_simp
        try with_reducible rfl
      try simp only [Act.put, List.setIfInBounds_toArray, List.set_cons_zero, List.set_cons_succ]
      refine wpAnyH_take (i := 7) (oi := { dst := some 74, op := Op.move (Operand.tmp 73), type := 4, pos := "law.go:51", after := #[{ on := 6, ground := Ground.data }, { on := 2, ground := Ground.chain }], guard := none }) (v := ?_) rfl (by kernel_rfl) (by kernel_rfl) (by kernel_rfl) (fun _ _ _ h => h) (Or.inl ⟨by rfl, ?_⟩) hHeld ?_
      rotate_left
      · intro w hSw
        try dsimp only at hSw
        go_simp
        try with_reducible rfl
      try simp only [Act.put, List.setIfInBounds_toArray, List.set_cons_zero, List.set_cons_succ]
      refine wpAnyH_take (i := 8) (oi := { dst := some 75, op := Op.load 24 (Operand.tmp 16), type := 24, pos := "law.go:51", after := #[{ on := 7, ground := Ground.guard }], guard := some (7, false) }) (v := ?_) rfl (by kernel_rfl) (by kernel_rfl) (by kernel_rfl) (fun _ _ _ h => h) (Or.inl ⟨by rfl, ?_⟩) hHeld ?_
      rotate_left
      · intro w hSw
        try dsimp only at hSw
        go_simp
        try with_reducible rfl
      try simp only [Act.put, List.setIfInBounds_toArray, List.set_cons_zero, List.set_cons_succ]
      refine wpAnyH_ready (rs := [9]) (by kernel_rfl) (by simp) ?_
      refine AllReadyH.cons (o := { dst := some 76, op := Op.call { callee := Callee.value (Operand.func 74), args := #[Operand.tmp 75], argTypes := #[24] }, type := 30, pos := "law.go:51", after := #[{ on := 8, ground := Ground.data }, { on := 7, ground := Ground.chain }, { on := 7, ground := Ground.guard }], guard := some (7, false) }) rfl (fun K hK => ?_) AllReadyH.nil
      go_simp
      refine (hc0 _ hHeld.1.1).mono ?_; rintro e w' ⟨rfl, hbl⟩
      try go_wp2_with fail
      refine hK.out _ _ (rk_on0  hHeld hbl) (fun hHeld2 => ?_)
      clear hK K hHeld; have hHeld := hHeld2; clear hHeld2
      try simp only [Act.put, List.setIfInBounds_toArray, List.set_cons_zero, List.set_cons_succ]
      refine wpAnyH_take (i := 10) (oi := { dst := some 77, op := Op.binOp BinOp.neq 30 (Operand.tmp 76) (Operand.const (Value.int IntKind.i64 0)) 30, type := 4, pos := "law.go:51", after := #[{ on := 9, ground := Ground.data }, { on := 7, ground := Ground.guard }], guard := some (7, false) }) (v := ?_) rfl (by kernel_rfl) (by kernel_rfl) (by kernel_rfl) (fun _ _ _ h => h) (Or.inl ⟨by rfl, ?_⟩) hHeld ?_
      rotate_left
      · intro w hSw
        try dsimp only at hSw
        go_simp
        try with_reducible rfl
      try simp only [Act.put, List.setIfInBounds_toArray, List.set_cons_zero, List.set_cons_succ]
      refine wpAnyH_take (i := 11) (oi := { dst := some 78, op := Op.pick (Operand.tmp 74) (Operand.const (Value.bool true)) (Operand.tmp 77), type := 4, pos := "law.go:51", after := #[{ on := 7, ground := Ground.data }, { on := 10, ground := Ground.data }], guard := none }) (v := ?_) rfl (by kernel_rfl) (by kernel_rfl) (by kernel_rfl) (fun _ _ _ h => h) (Or.inl ⟨by rfl, ?_⟩) hHeld ?_
      rotate_left
      · intro w hSw
        try dsimp only at hSw
        go_simp
        try with_reducible rfl
      try simp only [Act.put, List.setIfInBounds_toArray, List.set_cons_zero, List.set_cons_succ]
      refine wpAnyH_take (i := 12) (oi := { dst := some 79, op := Op.move (Operand.tmp 78), type := 4, pos := "law.go:51", after := #[{ on := 11, ground := Ground.data }, { on := 9, ground := Ground.chain }], guard := none }) (v := ?_) rfl (by kernel_rfl) (by kernel_rfl) (by kernel_rfl) (fun _ _ _ h => h) (Or.inl ⟨by rfl, ?_⟩) hHeld ?_
      rotate_left
      · intro w hSw
        try dsimp only at hSw
        go_simp
        try with_reducible rfl
      try simp only [Act.put, List.setIfInBounds_toArray, List.set_cons_zero, List.set_cons_succ]
      refine wpAnyH_take (i := 13) (oi := { dst := some 80, op := Op.fieldAddr 24 (Operand.tmp 16) 0, type := 0, pos := "law.go:51", after := #[{ on := 12, ground := Ground.guard }], guard := some (12, false) }) (v := ?_) rfl (by kernel_rfl) (by kernel_rfl) (by kernel_rfl) (fun _ _ _ h => h) (Or.inl ⟨by rfl, ?_⟩) hHeld ?_
      rotate_left
      · intro w hSw
        try dsimp only at hSw
        go_simp
        try with_reducible rfl
      try simp only [Act.put, List.setIfInBounds_toArray, List.set_cons_zero, List.set_cons_succ]
      refine wpAnyH_take (i := 14) (oi := { dst := some 81, op := Op.load 22 (Operand.tmp 80), type := 22, pos := "law.go:51", after := #[{ on := 13, ground := Ground.data }, { on := 12, ground := Ground.guard }], guard := some (12, false) }) (v := ?_) rfl (by kernel_rfl) (by kernel_rfl) (by kernel_rfl) (fun _ _ _ h => h) (Or.inl ⟨by rfl, ?_⟩) hHeld ?_
      rotate_left
      · intro w hSw
        try dsimp only at hSw
        go_simp
        try with_reducible rfl
      try simp only [Act.put, List.setIfInBounds_toArray, List.set_cons_zero, List.set_cons_succ]
      refine wpAnyH_take (i := 15) (oi := { dst := some 82, op := Op.binOp BinOp.neq 22 (Operand.tmp 81) (Operand.const (Value.int IntKind.u16 0)) 22, type := 4, pos := "law.go:51", after := #[{ on := 14, ground := Ground.data }, { on := 12, ground := Ground.guard }], guard := some (12, false) }) (v := ?_) rfl (by kernel_rfl) (by kernel_rfl) (by kernel_rfl) (fun _ _ _ h => h) (Or.inl ⟨by rfl, ?_⟩) hHeld ?_
      rotate_left
      · intro w hSw
        try dsimp only at hSw
        go_simp
        try with_reducible rfl
      try simp only [Act.put, List.setIfInBounds_toArray, List.set_cons_zero, List.set_cons_succ]
      refine wpAnyH_take (i := 16) (oi := { dst := some 83, op := Op.move (Operand.tmp 15), type := 3, pos := "law.go:51", after := #[{ on := 12, ground := Ground.guard }], guard := some (12, false) }) (v := ?_) rfl (by kernel_rfl) (by kernel_rfl) (by kernel_rfl) (fun _ _ _ h => h) (Or.inl ⟨by rfl, ?_⟩) hHeld ?_
      rotate_left
      · intro w hSw
        try dsimp only at hSw
        go_simp
        try with_reducible rfl
      try simp only [Act.put, List.setIfInBounds_toArray, List.set_cons_zero, List.set_cons_succ]
      refine wpAnyH_take (i := 17) (oi := { dst := some 84, op := Op.move (Operand.tmp 11), type := 94, pos := "law.go:51", after := #[{ on := 12, ground := Ground.guard }], guard := some (12, false) }) (v := ?_) rfl (by kernel_rfl) (by kernel_rfl) (by kernel_rfl) (fun _ _ _ h => h) (Or.inl ⟨by rfl, ?_⟩) hHeld ?_
      rotate_left
      · intro w hSw
        try dsimp only at hSw
        go_simp
        try with_reducible rfl
      try simp only [Act.put, List.setIfInBounds_toArray, List.set_cons_zero, List.set_cons_succ]
      refine wpAnyH_take (i := 18) (oi := { dst := some 85, op := Op.call { callee := Callee.builtin Builtin.len, args := #[Operand.tmp 84], argTypes := #[94] }, type := 3, pos := "law.go:51", after := #[{ on := 17, ground := Ground.data }, { on := 12, ground := Ground.guard }], guard := some (12, false) }) (v := ?_) rfl (by kernel_rfl) (by kernel_rfl) (by kernel_rfl) (fun _ _ _ h => h) (Or.inl ⟨by rfl, ?_⟩) hHeld ?_
      rotate_left
      · intro w hSw
        try dsimp only at hSw
        go_simp
        try with_reducible rfl
      try simp only [Act.put, List.setIfInBounds_toArray, List.set_cons_zero, List.set_cons_succ]
      refine wpAnyH_take (i := 19) (oi := { dst := some 86, op := Op.binOp BinOp.sub 3 (Operand.tmp 85) (Operand.const (Value.int IntKind.i64 1)) 3, type := 3, pos := "law.go:51", after := #[{ on := 18, ground := Ground.data }, { on := 12, ground := Ground.guard }], guard := some (12, false) }) (v := ?_) rfl (by kernel_rfl) (by kernel_rfl) (by kernel_rfl) (fun _ _ _ h => h) (Or.inl ⟨by rfl, ?_⟩) hHeld ?_
      rotate_left
      · intro w hSw
        try dsimp only at hSw
        go_simp
        try with_reducible rfl
      try simp only [Act.put, List.setIfInBounds_toArray, List.set_cons_zero, List.set_cons_succ]
      refine wpAnyH_take (i := 20) (oi := { dst := some 87, op := Op.binOp BinOp.eql 3 (Operand.tmp 83) (Operand.tmp 86) 3, type := 4, pos := "law.go:51", after := #[{ on := 16, ground := Ground.data }, { on := 19, ground := Ground.data }, { on := 12, ground := Ground.guard }], guard := some (12, false) }) (v := ?_) rfl (by kernel_rfl) (by kernel_rfl) (by kernel_rfl) (fun _ _ _ h => h) (Or.inl ⟨by rfl, ?_⟩) hHeld ?_
      rotate_left
      · intro w hSw
        try dsimp only at hSw
        go_simp
        try with_reducible rfl
      try simp only [Act.put, List.setIfInBounds_toArray, List.set_cons_zero, List.set_cons_succ]
      refine wpAnyH_take (i := 21) (oi := { dst := some 88, op := Op.binOp BinOp.neq 4 (Operand.tmp 82) (Operand.tmp 87) 4, type := 4, pos := "law.go:51", after := #[{ on := 15, ground := Ground.data }, { on := 20, ground := Ground.data }, { on := 12, ground := Ground.guard }], guard := some (12, false) }) (v := ?_) rfl (by kernel_rfl) (by kernel_rfl) (by kernel_rfl) (fun _ _ _ h => h) (Or.inl ⟨by rfl, ?_⟩) hHeld ?_
      rotate_left
      · intro w hSw
        try dsimp only at hSw
        go_simp
        try with_reducible rfl
      try simp only [Act.put, List.setIfInBounds_toArray, List.set_cons_zero, List.set_cons_succ]
      refine wpAnyH_take (i := 22) (oi := { dst := some 89, op := Op.pick (Operand.tmp 79) (Operand.const (Value.bool true)) (Operand.tmp 88), type := 4, pos := "law.go:51", after := #[{ on := 12, ground := Ground.data }, { on := 21, ground := Ground.data }], guard := none }) (v := ?_) rfl (by kernel_rfl) (by kernel_rfl) (by kernel_rfl) (fun _ _ _ h => h) (Or.inl ⟨by rfl, ?_⟩) hHeld ?_
      rotate_left
      · intro w hSw
        try dsimp only at hSw
        go_simp
        try with_reducible rfl
      try simp only [Act.put, List.setIfInBounds_toArray, List.set_cons_zero, List.set_cons_succ]
      refine wpAnyH_take (i := 23) (oi := { dst := some 90, op := Op.move (Operand.tmp 89), type := 4, pos := "law.go:51", after := #[{ on := 22, ground := Ground.data }, { on := 12, ground := Ground.chain }], guard := none }) (v := ?_) rfl (by kernel_rfl) (by kernel_rfl) (by kernel_rfl) (fun _ _ _ h => h) (Or.inl ⟨by rfl, ?_⟩) hHeld ?_
      rotate_left
      · intro w hSw
        try dsimp only at hSw
        go_simp
        try with_reducible rfl
      try simp only [Act.put, List.setIfInBounds_toArray, List.set_cons_zero, List.set_cons_succ]
      refine wpAnyH_take (i := 24) (oi := { dst := some 91, op := Op.move (Operand.tmp 15), type := 3, pos := "law.go:51", after := #[{ on := 23, ground := Ground.guard }], guard := some (23, false) }) (v := ?_) rfl (by kernel_rfl) (by kernel_rfl) (by kernel_rfl) (fun _ _ _ h => h) (Or.inl ⟨by rfl, ?_⟩) hHeld ?_
      rotate_left
      · intro w hSw
        try dsimp only at hSw
        go_simp
        try with_reducible rfl
      try simp only [Act.put, List.setIfInBounds_toArray, List.set_cons_zero, List.set_cons_succ]
      refine wpAnyH_take (i := 25) (oi := { dst := some 92, op := Op.binOp BinOp.gtr 3 (Operand.tmp 91) (Operand.const (Value.int IntKind.i64 0)) 3, type := 4, pos := "law.go:51", after := #[{ on := 24, ground := Ground.data }, { on := 23, ground := Ground.guard }], guard := some (23, false) }) (v := ?_) rfl (by kernel_rfl) (by kernel_rfl) (by kernel_rfl) (fun _ _ _ h => h) (Or.inl ⟨by rfl, ?_⟩) hHeld ?_
      rotate_left
      · intro w hSw
        try dsimp only at hSw
        go_simp
        try with_reducible rfl
      try simp only [Act.put, List.setIfInBounds_toArray, List.set_cons_zero, List.set_cons_succ]
      refine wpAnyH_take (i := 26) (oi := { dst := some 93, op := Op.move (Operand.tmp 92), type := 4, pos := "law.go:51", after := #[{ on := 25, ground := Ground.data }, { on := 23, ground := Ground.chain }, { on := 23, ground := Ground.guard }], guard := some (23, false) }) (v := ?_) rfl (by kernel_rfl) (by kernel_rfl) (by kernel_rfl) (fun _ _ _ h => h) (Or.inl ⟨by rfl, ?_⟩) hHeld ?_
      rotate_left
      · intro w hSw
        try dsimp only at hSw
        go_simp
        try with_reducible rfl
      try simp only [Act.put, List.setIfInBounds_toArray, List.set_cons_zero, List.set_cons_succ]
      refine wpAnyH_take (i := 27) (oi := { dst := some 94, op := Op.load 24 (Operand.tmp 16), type := 24, pos := "law.go:51", after := #[{ on := 26, ground := Ground.guard }], guard := some (26, true) }) (v := undef) rfl (by kernel_rfl) (by kernel_rfl) (by kernel_rfl) (fun _ _ _ h => h) (Or.inr ⟨by rfl, rfl⟩) hHeld ?_
      try simp only [Act.put, List.setIfInBounds_toArray, List.set_cons_zero, List.set_cons_succ]
      refine wpAnyH_take (i := 28) (oi := { dst := some 95, op := Op.move (Operand.tmp 11), type := 94, pos := "law.go:51", after := #[{ on := 26, ground := Ground.guard }], guard := some (26, true) }) (v := undef) rfl (by kernel_rfl) (by kernel_rfl) (by kernel_rfl) (fun _ _ _ h => h) (Or.inr ⟨by rfl, rfl⟩) hHeld ?_
      try simp only [Act.put, List.setIfInBounds_toArray, List.set_cons_zero, List.set_cons_succ]
      refine wpAnyH_take (i := 29) (oi := { dst := some 96, op := Op.move (Operand.tmp 15), type := 3, pos := "law.go:51", after := #[{ on := 26, ground := Ground.guard }], guard := some (26, true) }) (v := undef) rfl (by kernel_rfl) (by kernel_rfl) (by kernel_rfl) (fun _ _ _ h => h) (Or.inr ⟨by rfl, rfl⟩) hHeld ?_
      try simp only [Act.put, List.setIfInBounds_toArray, List.set_cons_zero, List.set_cons_succ]
      refine wpAnyH_take (i := 30) (oi := { dst := some 97, op := Op.binOp BinOp.sub 3 (Operand.tmp 96) (Operand.const (Value.int IntKind.i64 1)) 3, type := 3, pos := "law.go:51", after := #[{ on := 29, ground := Ground.data }, { on := 26, ground := Ground.guard }], guard := some (26, true) }) (v := undef) rfl (by kernel_rfl) (by kernel_rfl) (by kernel_rfl) (fun _ _ _ h => h) (Or.inr ⟨by rfl, rfl⟩) hHeld ?_
      try simp only [Act.put, List.setIfInBounds_toArray, List.set_cons_zero, List.set_cons_succ]
      refine wpAnyH_take (i := 31) (oi := { dst := some 98, op := Op.indexAddr 94 (Operand.tmp 95) (Operand.tmp 97), type := 0, pos := "law.go:51", after := #[{ on := 28, ground := Ground.data }, { on := 30, ground := Ground.data }, { on := 26, ground := Ground.guard }], guard := some (26, true) }) (v := undef) rfl (by kernel_rfl) (by kernel_rfl) (by kernel_rfl) (fun _ _ _ h => h) (Or.inr ⟨by rfl, rfl⟩) hHeld ?_
      try simp only [Act.put, List.setIfInBounds_toArray, List.set_cons_zero, List.set_cons_succ]
      refine wpAnyH_take (i := 32) (oi := { dst := some 99, op := Op.load 24 (Operand.tmp 98), type := 24, pos := "law.go:51", after := #[{ on := 31, ground := Ground.data }, { on := 26, ground := Ground.guard }], guard := some (26, true) }) (v := undef) rfl (by kernel_rfl) (by kernel_rfl) (by kernel_rfl) (fun _ _ _ h => h) (Or.inr ⟨by rfl, rfl⟩) hHeld ?_
      try simp only [Act.put, List.setIfInBounds_toArray, List.set_cons_zero, List.set_cons_succ]
      refine wpAnyH_take (i := 33) (oi := { dst := some 100, op := Op.binOp BinOp.eql 24 (Operand.tmp 94) (Operand.tmp 99) 24, type := 4, pos := "law.go:51", after := #[{ on := 27, ground := Ground.data }, { on := 32, ground := Ground.data }, { on := 26, ground := Ground.guard }], guard := some (26, true) }) (v := undef) rfl (by kernel_rfl) (by kernel_rfl) (by kernel_rfl) (fun _ _ _ h => h) (Or.inr ⟨by rfl, rfl⟩) hHeld ?_
      try simp only [Act.put, List.setIfInBounds_toArray, List.set_cons_zero, List.set_cons_succ]
      refine wpAnyH_take (i := 34) (oi := { dst := some 101, op := Op.pick (Operand.tmp 93) (Operand.tmp 100) (Operand.const (Value.bool false)), type := 4, pos := "law.go:51", after := #[{ on := 26, ground := Ground.data }, { on := 33, ground := Ground.data }, { on := 23, ground := Ground.guard }], guard := some (23, false) }) (v := ?_) rfl (by kernel_rfl) (by kernel_rfl) (by kernel_rfl) (fun _ _ _ h => h) (Or.inl ⟨by rfl, ?_⟩) hHeld ?_
      rotate_left
      · intro w hSw
        try dsimp only at hSw
        go_simp
        try with_reducible rfl
      try simp only [Act.put, List.setIfInBounds_toArray, List.set_cons_zero, List.set_cons_succ]
      refine wpAnyH_take (i := 35) (oi := { dst := some 102, op := Op.pick (Operand.tmp 90) (Operand.const (Value.bool true)) (Operand.tmp 101), type := 4, pos := "law.go:51", after := #[{ on := 23, ground := Ground.data }, { on := 34, ground := Ground.data }], guard := none }) (v := ?_) rfl (by kernel_rfl) (by kernel_rfl) (by kernel_rfl) (fun _ _ _ h => h) (Or.inl ⟨by rfl, ?_⟩) hHeld ?_
      rotate_left
      · intro w hSw
        try dsimp only at hSw
        go_simp
        try with_reducible rfl
      try simp only [Act.put, List.setIfInBounds_toArray, List.set_cons_zero, List.set_cons_succ]
      refine wpAnyH_done (by kernel_rfl) ?_ _
      obtain ⟨jv, jr, jo, jF, _⟩ := hHeld; clear ZZ
      go_wp2_with fail
      go_roundw
      case rel => exact ⟨1, by go_num, by omega, jv, jr, jo, jF⟩
      case measure => simp [intOf]
    · have r1 := hF.rowL 1 8 (by omega) rfl EX1.out
      go_upto_region 11 with (first | refine wpList_at_g rfl 24 _ rfl wr.heap.size _ (sA x1) rfl _ r1 Tryd.underlying24 rfl (by kernel_rfl) ?_ | refine wpList_store_new rfl 24 _ _ rfl rfl wr.heap.size (sA x1) rfl rfl _ #[.int .u16 0, .int .u16 0, .int .u16 0, .int .u16 0, .int .u16 0, .int .u16 0, .int .u16 0, .int .u16 0] wr rfl rfl rfl (by kernel_rfl) (by kernel_rfl) ?_)
      clear r1
      go_wp2_with (first | refine wpList_row_g rfl 24 _ rfl _ rfl _ _ _ _ ((Wd.Blk.new wr 24 (sA x1))) Tryd.underlying24 rfl (by kernel_rfl) ?_)
      have r_7 := (hr.alloc (.cells (sA x1) 24))
      have o_7 := (ho.alloc (.cells (sA x1) 24))
      have x_7 := (Wd.Blk.new wr 24 (sA x1))
      have inv_7 := (iv.alloc (.cells (sA x1) 24))
      have Fd_7 := ((hF.below (Below.alloc (Below.refl (wr).heap.size (wr)) (Nat.le_refl _) (.cells (sA x1) 24))).more (Below.alloc (Below.refl (wr).heap.size (wr)) (Nat.le_refl _) (.cells (sA x1) 24)).size)
      refine (hl1 _ inv_7.1).mono ?_; rintro e w_7 ⟨rfl, hb_7⟩
      have rc_7 := r_7.below hb_7 r_7.lt; clear r_7
      have oc_7 := o_7.below hb_7 o_7.lt; clear o_7
      have xc_7 := x_7.below hb_7 x_7.lt; clear x_7
      have Fc_7 := (Fd_7.below hb_7).more hb_7.size; clear Fd_7
      have invc_7 := inv_7.call hb_7; clear inv_7
      clear hb_7
      go_upto_region 12 with fail
      have r_8 := rc_7
      have o_8 := oc_7
      have x_8 := xc_7
      have inv_8 := invc_7
      have Fd_8 := Fc_7
      generalize hgx : wr.heap.size = gx at *
      clear hgx
      have ZZ := Lib.hid (rk_mk1  (x0 := x0) (by decide) EX0.out inv_8.drew r_8 o_8 Fd_8 x_8)
      clear inv_8 r_8 o_8 Fd_8 x_8
      refine wp_region_held_drew (S := fun w' => Inv w w' ∧ Blk w' gr 26 (rcA r.b r.c r.d r.p r.q) ∧ Blk w' go 26 (rcA o.b o.c o.d o.p o.q) ∧ Stamps w' w'.heap.size (some ⟨g, 0, none⟩) 2 P ∧ Blk w' gx 24 (sA x1) ∧ ldT 24 (.pointer (some ⟨gx, 0, none⟩)) w' = some (sA x1) ∧ w'.cell? ⟨gx, 0, none⟩ = some (.int .u16 x1.y) ∧ ldT 24 (.pointer (some ⟨g, 0, none⟩)) w' = some (sA x0)) (by kernel_rfl) (ZZ.out) (fun hHeld => ?_)
      refine wpAnyH_take (i := 0) (oi := { dst := some 67, op := Op.move (Operand.tmp 18), type := 30, pos := "law.go:51", after := #[], guard := none }) (v := ?_) rfl (by kernel_rfl) (by kernel_rfl) (by kernel_rfl) (fun _ _ _ h => h) (Or.inl ⟨by rfl, ?_⟩) hHeld ?_
      rotate_left
      · intro w hSw
        try dsimp only at hSw
        go_simp
        try with_reducible rfl
      try simp only [Act.put, List.setIfInBounds_toArray, List.set_cons_zero, List.set_cons_succ]
      refine wpAnyH_take (i := 1) (oi := { dst := some 68, op := Op.binOp BinOp.neq 30 (Operand.tmp 67) (Operand.const (Value.int IntKind.i64 0)) 30, type := 4, pos := "law.go:51", after := #[{ on := 0, ground := Ground.data }], guard := none }) (v := ?_) rfl (by kernel_rfl) (by kernel_rfl) (by kernel_rfl) (fun _ _ _ h => h) (Or.inl ⟨by rfl, ?_⟩) hHeld ?_
      rotate_left
      · intro w hSw
        try dsimp only at hSw
        go_simp
        try with_reducible rfl
      try simp only [Act.put, List.setIfInBounds_toArray, List.set_cons_zero, List.set_cons_succ]
      refine wpAnyH_take (i := 2) (oi := { dst := some 69, op := Op.move (Operand.tmp 68), type := 4, pos := "law.go:51", after := #[{ on := 1, ground := Ground.data }], guard := none }) (v := ?_) rfl (by kernel_rfl) (by kernel_rfl) (by kernel_rfl) (fun _ _ _ h => h) (Or.inl ⟨by rfl, ?_⟩) hHeld ?_
      rotate_left
      · intro w hSw
        try dsimp only at hSw
        go_simp
        try with_reducible rfl
      try simp only [Act.put, List.setIfInBounds_toArray, List.set_cons_zero, List.set_cons_succ]
      refine wpAnyH_take (i := 3) (oi := { dst := some 70, op := Op.move (Operand.tmp 17), type := 2, pos := "law.go:51", after := #[{ on := 2, ground := Ground.guard }], guard := some (2, false) }) (v := ?_) rfl (by kernel_rfl) (by kernel_rfl) (by kernel_rfl) (fun _ _ _ h => h) (Or.inl ⟨by rfl, ?_⟩) hHeld ?_
      rotate_left
      · intro w hSw
        try dsimp only at hSw
        go_simp
        try with_reducible rfl
      try simp only [Act.put, List.setIfInBounds_toArray, List.set_cons_zero, List.set_cons_succ]
      refine wpAnyH_take (i := 4) (oi := { dst := some 71, op := Op.move (Operand.tmp 13), type := 2, pos := "law.go:51", after := #[{ on := 2, ground := Ground.guard }], guard := some (2, false) }) (v := ?_) rfl (by kernel_rfl) (by kernel_rfl) (by kernel_rfl) (fun _ _ _ h => h) (Or.inl ⟨by rfl, ?_⟩) hHeld ?_
      rotate_left
      · intro w hSw
        try dsimp only at hSw
        go_simp
        try with_reducible rfl
      try simp only [Act.put, List.setIfInBounds_toArray, List.set_cons_zero, List.set_cons_succ]
      refine wpAnyH_take (i := 5) (oi := { dst := some 72, op := Op.binOp BinOp.neq 2 (Operand.tmp 70) (Operand.tmp 71) 2, type := 4, pos := "law.go:51", after := #[{ on := 3, ground := Ground.data }, { on := 4, ground := Ground.data }, { on := 2, ground := Ground.guard }], guard := some (2, false) }) (v := ?_) rfl (by kernel_rfl) (by kernel_rfl) (by kernel_rfl) (fun _ _ _ h => h) (Or.inl ⟨by rfl, ?_⟩) hHeld ?_
      rotate_left
      · intro w hSw
        try dsimp only at hSw
        go_simp
        try with_reducible rfl
      try simp only [Act.put, List.setIfInBounds_toArray, List.set_cons_zero, List.set_cons_succ]
      refine wpAnyH_take (i := 6) (oi := { dst := some 73, op := Op.pick (Operand.tmp 69) (Operand.const (Value.bool true)) (Operand.tmp 72), type := 4, pos := "law.go:51", after := #[{ on := 2, ground := Ground.data }, { on := 5, ground := Ground.data }], guard := none }) (v := ?_) rfl (by kernel_rfl) (by kernel_rfl) (by kernel_rfl) (fun _ _ _ h => h) (Or.inl ⟨by rfl, ?_⟩) hHeld ?_
      rotate_left
      · intro w hSw
        try dsimp only at hSw
        go_simp
        try with_reducible rfl
      try simp only [Act.put, List.setIfInBounds_toArray, List.set_cons_zero, List.set_cons_succ]
      refine wpAnyH_take (i := 7) (oi := { dst := some 74, op := Op.move (Operand.tmp 73), type := 4, pos := "law.go:51", after := #[{ on := 6, ground := Ground.data }, { on := 2, ground := Ground.chain }], guard := none }) (v := ?_) rfl (by kernel_rfl) (by kernel_rfl) (by kernel_rfl) (fun _ _ _ h => h) (Or.inl ⟨by rfl, ?_⟩) hHeld ?_
      rotate_left
      · intro w hSw
        try dsimp only at hSw
        go_simp
        try with_reducible rfl
      try simp only [Act.put, List.setIfInBounds_toArray, List.set_cons_zero, List.set_cons_succ]
      refine wpAnyH_take (i := 8) (oi := { dst := some 75, op := Op.load 24 (Operand.tmp 16), type := 24, pos := "law.go:51", after := #[{ on := 7, ground := Ground.guard }], guard := some (7, false) }) (v := ?_) rfl (by kernel_rfl) (by kernel_rfl) (by kernel_rfl) (fun _ _ _ h => h) (Or.inl ⟨by rfl, ?_⟩) hHeld ?_
      rotate_left
      · intro w hSw
        try dsimp only at hSw
        go_simp
        try with_reducible rfl
      try simp only [Act.put, List.setIfInBounds_toArray, List.set_cons_zero, List.set_cons_succ]
      refine wpAnyH_ready (rs := [9]) (by kernel_rfl) (by simp) ?_
      refine AllReadyH.cons (o := { dst := some 76, op := Op.call { callee := Callee.value (Operand.func 74), args := #[Operand.tmp 75], argTypes := #[24] }, type := 30, pos := "law.go:51", after := #[{ on := 8, ground := Ground.data }, { on := 7, ground := Ground.chain }, { on := 7, ground := Ground.guard }], guard := some (7, false) }) rfl (fun K hK => ?_) AllReadyH.nil
      go_simp
      refine (hc1 _ hHeld.1.1).mono ?_; rintro e w' ⟨rfl, hbl⟩
      try go_wp2_with fail
      refine hK.out _ _ (rk_on1  (x0 := x0) (by decide) EX0.out hHeld hbl) (fun hHeld2 => ?_)
      clear hK K hHeld; have hHeld := hHeld2; clear hHeld2
      try simp only [Act.put, List.setIfInBounds_toArray, List.set_cons_zero, List.set_cons_succ]
      refine wpAnyH_take (i := 10) (oi := { dst := some 77, op := Op.binOp BinOp.neq 30 (Operand.tmp 76) (Operand.const (Value.int IntKind.i64 0)) 30, type := 4, pos := "law.go:51", after := #[{ on := 9, ground := Ground.data }, { on := 7, ground := Ground.guard }], guard := some (7, false) }) (v := ?_) rfl (by kernel_rfl) (by kernel_rfl) (by kernel_rfl) (fun _ _ _ h => h) (Or.inl ⟨by rfl, ?_⟩) hHeld ?_
      rotate_left
      · intro w hSw
        try dsimp only at hSw
        go_simp
        try with_reducible rfl
      try simp only [Act.put, List.setIfInBounds_toArray, List.set_cons_zero, List.set_cons_succ]
      refine wpAnyH_take (i := 11) (oi := { dst := some 78, op := Op.pick (Operand.tmp 74) (Operand.const (Value.bool true)) (Operand.tmp 77), type := 4, pos := "law.go:51", after := #[{ on := 7, ground := Ground.data }, { on := 10, ground := Ground.data }], guard := none }) (v := ?_) rfl (by kernel_rfl) (by kernel_rfl) (by kernel_rfl) (fun _ _ _ h => h) (Or.inl ⟨by rfl, ?_⟩) hHeld ?_
      rotate_left
      · intro w hSw
        try dsimp only at hSw
        go_simp
        try with_reducible rfl
      try simp only [Act.put, List.setIfInBounds_toArray, List.set_cons_zero, List.set_cons_succ]
      refine wpAnyH_take (i := 12) (oi := { dst := some 79, op := Op.move (Operand.tmp 78), type := 4, pos := "law.go:51", after := #[{ on := 11, ground := Ground.data }, { on := 9, ground := Ground.chain }], guard := none }) (v := ?_) rfl (by kernel_rfl) (by kernel_rfl) (by kernel_rfl) (fun _ _ _ h => h) (Or.inl ⟨by rfl, ?_⟩) hHeld ?_
      rotate_left
      · intro w hSw
        try dsimp only at hSw
        go_simp
        try with_reducible rfl
      try simp only [Act.put, List.setIfInBounds_toArray, List.set_cons_zero, List.set_cons_succ]
      refine wpAnyH_take (i := 13) (oi := { dst := some 80, op := Op.fieldAddr 24 (Operand.tmp 16) 0, type := 0, pos := "law.go:51", after := #[{ on := 12, ground := Ground.guard }], guard := some (12, false) }) (v := ?_) rfl (by kernel_rfl) (by kernel_rfl) (by kernel_rfl) (fun _ _ _ h => h) (Or.inl ⟨by rfl, ?_⟩) hHeld ?_
      rotate_left
      · intro w hSw
        try dsimp only at hSw
        go_simp
        try with_reducible rfl
      try simp only [Act.put, List.setIfInBounds_toArray, List.set_cons_zero, List.set_cons_succ]
      refine wpAnyH_take (i := 14) (oi := { dst := some 81, op := Op.load 22 (Operand.tmp 80), type := 22, pos := "law.go:51", after := #[{ on := 13, ground := Ground.data }, { on := 12, ground := Ground.guard }], guard := some (12, false) }) (v := ?_) rfl (by kernel_rfl) (by kernel_rfl) (by kernel_rfl) (fun _ _ _ h => h) (Or.inl ⟨by rfl, ?_⟩) hHeld ?_
      rotate_left
      · intro w hSw
        try dsimp only at hSw
        go_simp
        try with_reducible rfl
      try simp only [Act.put, List.setIfInBounds_toArray, List.set_cons_zero, List.set_cons_succ]
      refine wpAnyH_take (i := 15) (oi := { dst := some 82, op := Op.binOp BinOp.neq 22 (Operand.tmp 81) (Operand.const (Value.int IntKind.u16 0)) 22, type := 4, pos := "law.go:51", after := #[{ on := 14, ground := Ground.data }, { on := 12, ground := Ground.guard }], guard := some (12, false) }) (v := ?_) rfl (by kernel_rfl) (by kernel_rfl) (by kernel_rfl) (fun _ _ _ h => h) (Or.inl ⟨by rfl, ?_⟩) hHeld ?_
      rotate_left
      · intro w hSw
        try dsimp only at hSw
        go_simp
        try with_reducible rfl
      try simp only [Act.put, List.setIfInBounds_toArray, List.set_cons_zero, List.set_cons_succ]
      refine wpAnyH_take (i := 16) (oi := { dst := some 83, op := Op.move (Operand.tmp 15), type := 3, pos := "law.go:51", after := #[{ on := 12, ground := Ground.guard }], guard := some (12, false) }) (v := ?_) rfl (by kernel_rfl) (by kernel_rfl) (by kernel_rfl) (fun _ _ _ h => h) (Or.inl ⟨by rfl, ?_⟩) hHeld ?_
      rotate_left
      · intro w hSw
        try dsimp only at hSw
        go_simp
        try with_reducible rfl
      try simp only [Act.put, List.setIfInBounds_toArray, List.set_cons_zero, List.set_cons_succ]
      refine wpAnyH_take (i := 17) (oi := { dst := some 84, op := Op.move (Operand.tmp 11), type := 94, pos := "law.go:51", after := #[{ on := 12, ground := Ground.guard }], guard := some (12, false) }) (v := ?_) rfl (by kernel_rfl) (by kernel_rfl) (by kernel_rfl) (fun _ _ _ h => h) (Or.inl ⟨by rfl, ?_⟩) hHeld ?_
      rotate_left
      · intro w hSw
        try dsimp only at hSw
        go_simp
        try with_reducible rfl
      try simp only [Act.put, List.setIfInBounds_toArray, List.set_cons_zero, List.set_cons_succ]
      refine wpAnyH_take (i := 18) (oi := { dst := some 85, op := Op.call { callee := Callee.builtin Builtin.len, args := #[Operand.tmp 84], argTypes := #[94] }, type := 3, pos := "law.go:51", after := #[{ on := 17, ground := Ground.data }, { on := 12, ground := Ground.guard }], guard := some (12, false) }) (v := ?_) rfl (by kernel_rfl) (by kernel_rfl) (by kernel_rfl) (fun _ _ _ h => h) (Or.inl ⟨by rfl, ?_⟩) hHeld ?_
      rotate_left
      · intro w hSw
        try dsimp only at hSw
        go_simp
        try with_reducible rfl
      try simp only [Act.put, List.setIfInBounds_toArray, List.set_cons_zero, List.set_cons_succ]
      refine wpAnyH_take (i := 19) (oi := { dst := some 86, op := Op.binOp BinOp.sub 3 (Operand.tmp 85) (Operand.const (Value.int IntKind.i64 1)) 3, type := 3, pos := "law.go:51", after := #[{ on := 18, ground := Ground.data }, { on := 12, ground := Ground.guard }], guard := some (12, false) }) (v := ?_) rfl (by kernel_rfl) (by kernel_rfl) (by kernel_rfl) (fun _ _ _ h => h) (Or.inl ⟨by rfl, ?_⟩) hHeld ?_
      rotate_left
      · intro w hSw
        try dsimp only at hSw
        go_simp
        try with_reducible rfl
      try simp only [Act.put, List.setIfInBounds_toArray, List.set_cons_zero, List.set_cons_succ]
      refine wpAnyH_take (i := 20) (oi := { dst := some 87, op := Op.binOp BinOp.eql 3 (Operand.tmp 83) (Operand.tmp 86) 3, type := 4, pos := "law.go:51", after := #[{ on := 16, ground := Ground.data }, { on := 19, ground := Ground.data }, { on := 12, ground := Ground.guard }], guard := some (12, false) }) (v := ?_) rfl (by kernel_rfl) (by kernel_rfl) (by kernel_rfl) (fun _ _ _ h => h) (Or.inl ⟨by rfl, ?_⟩) hHeld ?_
      rotate_left
      · intro w hSw
        try dsimp only at hSw
        go_simp
        try with_reducible rfl
      try simp only [Act.put, List.setIfInBounds_toArray, List.set_cons_zero, List.set_cons_succ]
      refine wpAnyH_take (i := 21) (oi := { dst := some 88, op := Op.binOp BinOp.neq 4 (Operand.tmp 82) (Operand.tmp 87) 4, type := 4, pos := "law.go:51", after := #[{ on := 15, ground := Ground.data }, { on := 20, ground := Ground.data }, { on := 12, ground := Ground.guard }], guard := some (12, false) }) (v := ?_) rfl (by kernel_rfl) (by kernel_rfl) (by kernel_rfl) (fun _ _ _ h => h) (Or.inl ⟨by rfl, ?_⟩) hHeld ?_
      rotate_left
      · intro w hSw
        try dsimp only at hSw
        go_simp
        try with_reducible rfl
      try simp only [Act.put, List.setIfInBounds_toArray, List.set_cons_zero, List.set_cons_succ]
      refine wpAnyH_take (i := 22) (oi := { dst := some 89, op := Op.pick (Operand.tmp 79) (Operand.const (Value.bool true)) (Operand.tmp 88), type := 4, pos := "law.go:51", after := #[{ on := 12, ground := Ground.data }, { on := 21, ground := Ground.data }], guard := none }) (v := ?_) rfl (by kernel_rfl) (by kernel_rfl) (by kernel_rfl) (fun _ _ _ h => h) (Or.inl ⟨by rfl, ?_⟩) hHeld ?_
      rotate_left
      · intro w hSw
        try dsimp only at hSw
        go_simp
        try with_reducible rfl
      try simp only [Act.put, List.setIfInBounds_toArray, List.set_cons_zero, List.set_cons_succ]
      refine wpAnyH_take (i := 23) (oi := { dst := some 90, op := Op.move (Operand.tmp 89), type := 4, pos := "law.go:51", after := #[{ on := 22, ground := Ground.data }, { on := 12, ground := Ground.chain }], guard := none }) (v := ?_) rfl (by kernel_rfl) (by kernel_rfl) (by kernel_rfl) (fun _ _ _ h => h) (Or.inl ⟨by rfl, ?_⟩) hHeld ?_
      rotate_left
      · intro w hSw
        try dsimp only at hSw
        go_simp
        try with_reducible rfl
      try simp only [Act.put, List.setIfInBounds_toArray, List.set_cons_zero, List.set_cons_succ]
      refine wpAnyH_take (i := 24) (oi := { dst := some 91, op := Op.move (Operand.tmp 15), type := 3, pos := "law.go:51", after := #[{ on := 23, ground := Ground.guard }], guard := some (23, false) }) (v := ?_) rfl (by kernel_rfl) (by kernel_rfl) (by kernel_rfl) (fun _ _ _ h => h) (Or.inl ⟨by rfl, ?_⟩) hHeld ?_
      rotate_left
      · intro w hSw
        try dsimp only at hSw
        go_simp
        try with_reducible rfl
      try simp only [Act.put, List.setIfInBounds_toArray, List.set_cons_zero, List.set_cons_succ]
      refine wpAnyH_take (i := 25) (oi := { dst := some 92, op := Op.binOp BinOp.gtr 3 (Operand.tmp 91) (Operand.const (Value.int IntKind.i64 0)) 3, type := 4, pos := "law.go:51", after := #[{ on := 24, ground := Ground.data }, { on := 23, ground := Ground.guard }], guard := some (23, false) }) (v := ?_) rfl (by kernel_rfl) (by kernel_rfl) (by kernel_rfl) (fun _ _ _ h => h) (Or.inl ⟨by rfl, ?_⟩) hHeld ?_
      rotate_left
      · intro w hSw
        try dsimp only at hSw
        go_simp
        try with_reducible rfl
      try simp only [Act.put, List.setIfInBounds_toArray, List.set_cons_zero, List.set_cons_succ]
      refine wpAnyH_take (i := 26) (oi := { dst := some 93, op := Op.move (Operand.tmp 92), type := 4, pos := "law.go:51", after := #[{ on := 25, ground := Ground.data }, { on := 23, ground := Ground.chain }, { on := 23, ground := Ground.guard }], guard := some (23, false) }) (v := ?_) rfl (by kernel_rfl) (by kernel_rfl) (by kernel_rfl) (fun _ _ _ h => h) (Or.inl ⟨by rfl, ?_⟩) hHeld ?_
      rotate_left
      · intro w hSw
        try dsimp only at hSw
        go_simp
        try with_reducible rfl
      try simp only [Act.put, List.setIfInBounds_toArray, List.set_cons_zero, List.set_cons_succ]
      refine wpAnyH_take (i := 27) (oi := { dst := some 94, op := Op.load 24 (Operand.tmp 16), type := 24, pos := "law.go:51", after := #[{ on := 26, ground := Ground.guard }], guard := some (26, true) }) (v := ?_) rfl (by kernel_rfl) (by kernel_rfl) (by kernel_rfl) (fun _ _ _ h => h) (Or.inl ⟨by rfl, ?_⟩) hHeld ?_
      rotate_left
      · intro w hSw
        try dsimp only at hSw
        go_simp
        try with_reducible rfl
      try simp only [Act.put, List.setIfInBounds_toArray, List.set_cons_zero, List.set_cons_succ]
      refine wpAnyH_take (i := 28) (oi := { dst := some 95, op := Op.move (Operand.tmp 11), type := 94, pos := "law.go:51", after := #[{ on := 26, ground := Ground.guard }], guard := some (26, true) }) (v := ?_) rfl (by kernel_rfl) (by kernel_rfl) (by kernel_rfl) (fun _ _ _ h => h) (Or.inl ⟨by rfl, ?_⟩) hHeld ?_
      rotate_left
      · intro w hSw
        try dsimp only at hSw
        go_simp
        try with_reducible rfl
      try simp only [Act.put, List.setIfInBounds_toArray, List.set_cons_zero, List.set_cons_succ]
      refine wpAnyH_take (i := 29) (oi := { dst := some 96, op := Op.move (Operand.tmp 15), type := 3, pos := "law.go:51", after := #[{ on := 26, ground := Ground.guard }], guard := some (26, true) }) (v := ?_) rfl (by kernel_rfl) (by kernel_rfl) (by kernel_rfl) (fun _ _ _ h => h) (Or.inl ⟨by rfl, ?_⟩) hHeld ?_
      rotate_left
      · intro w hSw
        try dsimp only at hSw
        go_simp
        try with_reducible rfl
      try simp only [Act.put, List.setIfInBounds_toArray, List.set_cons_zero, List.set_cons_succ]
      refine wpAnyH_take (i := 30) (oi := { dst := some 97, op := Op.binOp BinOp.sub 3 (Operand.tmp 96) (Operand.const (Value.int IntKind.i64 1)) 3, type := 3, pos := "law.go:51", after := #[{ on := 29, ground := Ground.data }, { on := 26, ground := Ground.guard }], guard := some (26, true) }) (v := ?_) rfl (by kernel_rfl) (by kernel_rfl) (by kernel_rfl) (fun _ _ _ h => h) (Or.inl ⟨by rfl, ?_⟩) hHeld ?_
      rotate_left
      · intro w hSw
        try dsimp only at hSw
        go_simp
        try with_reducible rfl
      try simp only [Act.put, List.setIfInBounds_toArray, List.set_cons_zero, List.set_cons_succ]
      refine wpAnyH_take (i := 31) (oi := { dst := some 98, op := Op.indexAddr 94 (Operand.tmp 95) (Operand.tmp 97), type := 0, pos := "law.go:51", after := #[{ on := 28, ground := Ground.data }, { on := 30, ground := Ground.data }, { on := 26, ground := Ground.guard }], guard := some (26, true) }) (v := ?_) rfl (by kernel_rfl) (by kernel_rfl) (by kernel_rfl) (fun _ _ _ h => h) (Or.inl ⟨by rfl, ?_⟩) hHeld ?_
      rotate_left
      · intro w hSw
        try dsimp only at hSw
        go_simp
        try with_reducible rfl
      try simp only [Act.put, List.setIfInBounds_toArray, List.set_cons_zero, List.set_cons_succ]
      refine wpAnyH_take (i := 32) (oi := { dst := some 99, op := Op.load 24 (Operand.tmp 98), type := 24, pos := "law.go:51", after := #[{ on := 31, ground := Ground.data }, { on := 26, ground := Ground.guard }], guard := some (26, true) }) (v := ?_) rfl (by kernel_rfl) (by kernel_rfl) (by kernel_rfl) (fun _ _ _ h => h) (Or.inl ⟨by rfl, ?_⟩) hHeld ?_
      rotate_left
      · intro w hSw
        try dsimp only at hSw
        go_simp
        try with_reducible rfl
      try simp only [Act.put, List.setIfInBounds_toArray, List.set_cons_zero, List.set_cons_succ]
      refine wpAnyH_take (i := 33) (oi := { dst := some 100, op := Op.binOp BinOp.eql 24 (Operand.tmp 94) (Operand.tmp 99) 24, type := 4, pos := "law.go:51", after := #[{ on := 27, ground := Ground.data }, { on := 32, ground := Ground.data }, { on := 26, ground := Ground.guard }], guard := some (26, true) }) (v := ?_) rfl (by kernel_rfl) (by kernel_rfl) (by kernel_rfl) (fun _ _ _ h => h) (Or.inl ⟨by rfl, ?_⟩) hHeld ?_
      rotate_left
      · intro w hSw
        try dsimp only at hSw
        go_simp
        try with_reducible rfl
      try simp only [Act.put, List.setIfInBounds_toArray, List.set_cons_zero, List.set_cons_succ]
      refine wpAnyH_take (i := 34) (oi := { dst := some 101, op := Op.pick (Operand.tmp 93) (Operand.tmp 100) (Operand.const (Value.bool false)), type := 4, pos := "law.go:51", after := #[{ on := 26, ground := Ground.data }, { on := 33, ground := Ground.data }, { on := 23, ground := Ground.guard }], guard := some (23, false) }) (v := ?_) rfl (by kernel_rfl) (by kernel_rfl) (by kernel_rfl) (fun _ _ _ h => h) (Or.inl ⟨by rfl, ?_⟩) hHeld ?_
      rotate_left
      · intro w hSw
        try dsimp only at hSw
        go_simp
        try with_reducible rfl
      try simp only [Act.put, List.setIfInBounds_toArray, List.set_cons_zero, List.set_cons_succ]
      refine wpAnyH_take (i := 35) (oi := { dst := some 102, op := Op.pick (Operand.tmp 90) (Operand.const (Value.bool true)) (Operand.tmp 101), type := 4, pos := "law.go:51", after := #[{ on := 23, ground := Ground.data }, { on := 34, ground := Ground.data }], guard := none }) (v := ?_) rfl (by kernel_rfl) (by kernel_rfl) (by kernel_rfl) (fun _ _ _ h => h) (Or.inl ⟨by rfl, ?_⟩) hHeld ?_
      rotate_left
      · intro w hSw
        try dsimp only at hSw
        go_simp
        try with_reducible rfl
      try simp only [Act.put, List.setIfInBounds_toArray, List.set_cons_zero, List.set_cons_succ]
      refine wpAnyH_done (by kernel_rfl) ?_ _
      obtain ⟨jv, jr, jo, jF, _⟩ := hHeld; clear ZZ
      go_wp2_with fail
      go_roundw
      case rel => exact ⟨2, by go_num, by omega, jv, jr, jo, jF⟩
      case measure => simp [intOf]
    · have r1 := hF.rowL 1 8 (by omega) rfl EX1.out
      clear hF hl0 hc0 hl1 hc1
      go_upto_region 15 with fail
      go_wp2_with (refine wpList_at_g rfl 24 _ rfl wr.heap.size _ (sA x1) rfl _ r1 Tryd.underlying24 rfl (by kernel_rfl) ?_)
      clear r1
      have r_9 := hr
      have o_9 := ho
      have inv_9 := iv
      refine (hlz _ inv_9.1).mono ?_; rintro e w_9 ⟨rfl, hb_9⟩
      have rc_9 := r_9.below hb_9 r_9.lt; clear r_9
      have oc_9 := o_9.below hb_9 o_9.lt; clear o_9
      have invc_9 := inv_9.call hb_9; clear inv_9
      clear hb_9
      have r_10 := rc_9
      have o_10 := oc_9
      have inv_10 := invc_9
      go_upto_region 16 with fail
      go_cut [121] (fun v wx => v = .bool false ∧ wx = w_9)
      case first =>
        by_cases hE : E2 = 0
        · have hZ := HZ.out hE
          have b1 : (E2 == 0) = true := by rw [hE]; rfl
          have b2 : (Z != Y) = false := by rw [hZ]; simp
          clear hE hZ
          go_wp2_with fail
          go_meet
          exact ⟨rfl, rfl⟩
        · have b1 : (E2 == 0) = false := by rw [beq_eq_false_iff_ne]; exact hE
          clear hE
          go_wp2_with fail
          go_meet
          exact ⟨rfl, rfl⟩
      case rest =>
        obtain ⟨rfl, rfl⟩ := hcut
        go_wp2_with (first | refine wpList_row_g rfl 26 _ rfl _ rfl _ _ _ _ r_10 Tryd.underlying26 rfl (by kernel_rfl) ?_)
        have r_11 := r_10
        have o_11 := o_10
        have inv_11 := inv_10
        refine (hsr _ inv_11.1).mono ?_; rintro e w_11 ⟨A1, n1, c1, rfl, en1, L_11, hb_11⟩
        have rc_11 := r_11.below hb_11 r_11.lt; clear r_11
        have oc_11 := o_11.below hb_11 o_11.lt; clear o_11
        have invc_11 := inv_11.call hb_11; clear inv_11
        subst en1
        clear hb_11
        go_wp2_with (first | refine wpList_row_g rfl 26 _ rfl _ rfl _ _ _ _ rc_11 Tryd.underlying26 rfl (by kernel_rfl) ?_ | refine wpList_row_g rfl 26 _ rfl _ rfl _ _ _ _ oc_11 Tryd.underlying26 rfl (by kernel_rfl) ?_)
        have r_12 := rc_11
        have o_12 := oc_11
        have inv_12 := invc_11
        have Ld_12 := L_11
        refine (hrc _ inv_12.1).mono ?_; rintro e w_12 ⟨rfl, hb_12⟩
        have rc_12 := r_12.below hb_12 r_12.lt; clear r_12
        have oc_12 := o_12.below hb_12 o_12.lt; clear o_12
        have Lc_12 := (Ld_12.below hb_12).more hb_12.size; clear Ld_12
        have invc_12 := inv_12.call hb_12; clear inv_12
        clear hb_12
        go_wp2_with (first | refine wpList_store_new rfl 26 _ _ rfl rfl w_12.heap.size (rcA x.b x.c x.d x.p x.q) rfl rfl _ #[.int .i32 0, .int .i32 0, .int .i32 0, .int .u16 0, .int .u16 0, .int .u16 0, .int .u16 0, .int .u16 0, .int .u16 0, .int .u16 0, .int .u16 0, .int .u16 0, .int .u16 0, .int .u16 0, .int .u16 0, .int .u16 0, .int .u16 0, .int .u16 0, .int .u16 0] w_12 rfl rfl rfl (by kernel_rfl) (by kernel_rfl) ?_ | refine wpList_row_g rfl 26 _ rfl _ rfl _ _ _ _ (Wd.Blk.new w_12 26 (rcA x.b x.c x.d x.p x.q)) Tryd.underlying26 rfl (by kernel_rfl) ?_)
        have r_13 := (rc_12.alloc (.cells (rcA x.b x.c x.d x.p x.q) 26))
        have o_13 := (oc_12.alloc (.cells (rcA x.b x.c x.d x.p x.q) 26))
        have x_13 := (Wd.Blk.new w_12 26 (rcA x.b x.c x.d x.p x.q))
        have inv_13 := (invc_12.alloc (.cells (rcA x.b x.c x.d x.p x.q) 26))
        have Ld_13 := ((Lc_12.below (Below.alloc (Below.refl (w_12).heap.size (w_12)) (Nat.le_refl _) (.cells (rcA x.b x.c x.d x.p x.q) 26))).more (Below.alloc (Below.refl (w_12).heap.size (w_12)) (Nat.le_refl _) (.cells (rcA x.b x.c x.d x.p x.q) 26)).size)
        refine (hsx _ inv_13.1).mono ?_; rintro e w_13 ⟨A2, n2, c2, rfl, en2, M_13, hb_13⟩
        have rc_13 := r_13.below hb_13 r_13.lt; clear r_13
        have oc_13 := o_13.below hb_13 o_13.lt; clear o_13
        have xc_13 := x_13.below hb_13 x_13.lt; clear x_13
        have Lc_13 := (Ld_13.below hb_13).more hb_13.size; clear Ld_13
        have invc_13 := inv_13.call hb_13; clear inv_13
        subst en2
        clear hb_13
        have eE : (E == E) = true := by simp
        have eK : (K == K) = true := by simp
        go_upto_region 21 with fail
        have r_14 := rc_13
        have o_14 := oc_13
        have x_14 := xc_13
        have inv_14 := invc_13
        have Ld_14 := Lc_13
        have Md_14 := M_13
        have hx := x_14; have hr := r_14; have iv := inv_14; have hL := Ld_14; have hM := Md_14
        clear r_14 o_14 x_14 inv_14 Ld_14 Md_14 hsr hsx hrc
        have hk : ∀ (v : Value) (w : World), (v = x.V ∨ v = r.V) → Tab w → Calls Tryd.prog 24 #[v] w fun e w' => e = .returned (.int .i64 K) ∧ Below w.heap.size w w' := fun v w h hT => by
          rcases h with rfl | rfl
          · exact hkx w hT
          · exact hkr w hT
        clear hkx hkr
        generalize hgx : w_12.heap.size = gx at *
        clear hgx
        have ZZ := Lib.hid (tk_mk iv.drew hL hM hx hr); clear iv hL hM hx hr
        first | (go_region_held3 (fun w' => Inv w w' ∧ Ft.Spans w' w'.heap.size A1 n2 l ∧ Ft.Spans w' w'.heap.size A2 n2 l ∧ Blk w' gx 26 (rcA x.b x.c x.d x.p x.q) ∧ Blk w' gr 26 (rcA r.b r.c r.d r.p r.q) ∧ ldT 26 (.pointer (some ⟨gx, 0, none⟩)) w' = some (rcA x.b x.c x.d x.p x.q) ∧ ldT 26 (.pointer (some ⟨gr, 0, none⟩)) w' = some (rcA r.b r.c r.d r.p r.q))
          (first | exact ZZ.out | exact tk_on (by assumption) hbl)
          (first | (go_at_call 47; refine (Ft.same_eq _ _ _ _ _ l _ (by go_split_ands; assumption) (by go_split_ands; assumption) (by unfold maxLen; omega)).mono ?_; rintro e w' ⟨rfl, hbl⟩) | (go_at_call 24; refine (hk _ _ (by first | exact Or.inl rfl | exact Or.inr rfl) (show Inv w _ by go_split_ands; assumption).1).mono ?_; rintro e w' ⟨rfl, hbl⟩))) | fail
        rename_i hH
        have hbel := hH.1.2; clear hH ZZ
        go_wp2_with fail
        go_ret
        exact ⟨rfl, hbel⟩
set_option maxRecDepth 100000 in
set_option maxHeartbeats 6400000 in
theorem one_yes3 (s : St) (Y Z : Int) (r o : Rc) (w : World) (hT : Tab w) (P : List St) (C C2 E2 : Int)
    (hfm : ∀ w, Tab w → Calls Tryd.prog 63 #[.agg (sA s), .int .i64 Y] w fun e w' => ∃ g c, e = .returned (.tuple #[.slice (some ⟨g, 0, none⟩) 3 c, .int .i64 0]) ∧ Stamps w' w'.heap.size (some ⟨g, 0, none⟩) 3 P ∧ Below w.heap.size w w')
    (hls : ∀ w, Tab w → Calls Tryd.prog 73 #[.agg (sA s), .int .i64 Y] w fun e w' => e = .returned (.tuple #[.int .i64 C, .int .i64 0]) ∧ Below w.heap.size w w')
    (x0 x1 x2 : St) (e0 : P.getD 0 St.nil = x0) (e1 : P.getD 1 St.nil = x1) (e2 : P.getD 2 St.nil = x2)
    (hl0 : ∀ w, Tab w → Calls Tryd.prog 73 #[.agg (sA x0), .int .i64 Y] w fun e w' => e = .returned (.tuple #[.int .i64 C, .int .i64 0]) ∧ Below w.heap.size w w')
    (hc0 : ∀ w, Tab w → Calls Tryd.prog 74 #[.agg (sA x0)] w fun e w' => e = .returned (.int .i64 0) ∧ Below w.heap.size w w')
    (hl1 : ∀ w, Tab w → Calls Tryd.prog 73 #[.agg (sA x1), .int .i64 Y] w fun e w' => e = .returned (.tuple #[.int .i64 C, .int .i64 0]) ∧ Below w.heap.size w w')
    (hc1 : ∀ w, Tab w → Calls Tryd.prog 74 #[.agg (sA x1)] w fun e w' => e = .returned (.int .i64 0) ∧ Below w.heap.size w w')
    (hl2 : ∀ w, Tab w → Calls Tryd.prog 73 #[.agg (sA x2), .int .i64 Y] w fun e w' => e = .returned (.tuple #[.int .i64 C, .int .i64 0]) ∧ Below w.heap.size w w')
    (hc2 : ∀ w, Tab w → Calls Tryd.prog 74 #[.agg (sA x2)] w fun e w' => e = .returned (.int .i64 0) ∧ Below w.heap.size w w')
    (hlz : ∀ w, Tab w → Calls Tryd.prog 73 #[.agg (sA x2), .int .i64 Z] w fun e w' => e = .returned (.tuple #[.int .i64 C2, .int .i64 E2]) ∧ Below w.heap.size w w')
    (hz : E2 = 0 → Z = Y) (y0 : (x0.y != 0) = false) (y1 : (x1.y != 0) = false) (y2 : (x2.y != 0) = true) (n0 : x1 ≠ x0) (n1 : x2 ≠ x1)
    (x : Rc) (l : List Sp) (nl : Nat) (hnl : nl ≤ 3) (E K : Int)
    (hsr : ∀ w, Tab w → Calls Tryd.prog 75 #[r.V, .int .i64 Y] w fun e w' => ∃ A n c, e = .returned (.tuple #[.slice A n c, .int .i64 E]) ∧ n = nl ∧ Ft.Spans w' w'.heap.size A n l ∧ Below w.heap.size w w')
    (hsx : ∀ w, Tab w → Calls Tryd.prog 75 #[x.V, .int .i64 Y] w fun e w' => ∃ A n c, e = .returned (.tuple #[.slice A n c, .int .i64 E]) ∧ n = nl ∧ Ft.Spans w' w'.heap.size A n l ∧ Below w.heap.size w w')
    (hrc : ∀ w, Tab w → Calls Tryd.prog 71 #[r.V, o.V, .int .i64 Y] w fun e w' => e = .returned x.V ∧ Below w.heap.size w w')
    (hkr : ∀ w, Tab w → Calls Tryd.prog 24 #[r.V] w fun e w' => e = .returned (.int .i64 K) ∧ Below w.heap.size w w')
    (hkx : ∀ w, Tab w → Calls Tryd.prog 24 #[x.V] w fun e w' => e = .returned (.int .i64 K) ∧ Below w.heap.size w w') :
    Calls Tryd.prog 14 #[.agg (sA s), .int .i64 Y, .int .i64 Z, r.V, o.V] w fun e w' => e = .returned (.bool true) ∧ Below w.heap.size w w' := by
  have i0 := Inv.start hT
  have hCC : (C != C) = false := by simp
  have hw0 : IntKind.i64.wrap 0 = 0 := by decide
  have hw1 : IntKind.i64.wrap 1 = 1 := by decide
  have hq0 : ∀ w, (binOp .eql 24 (.agg (sA x1)) (.agg (sA x0))).run Tryd.prog w = .ok (.bool false) w := fun w => (eq_stt x1 x0 w).trans (by rw [show eqS x1 x0 = false from Bool.eq_false_iff.2 fun q => n0 (eqS_iff.1 q)])
  have hq1 : ∀ w, (binOp .eql 24 (.agg (sA x2)) (.agg (sA x1))).run Tryd.prog w = .ok (.bool false) w := fun w => (eq_stt x2 x1 w).trans (by rw [show eqS x2 x1 = false from Bool.eq_false_iff.2 fun q => n1 (eqS_iff.1 q)])
  have EX0 := Lib.hid e0; clear e0
  have EX1 := Lib.hid e1; clear e1
  have EX2 := Lib.hid e2; clear e2
  have HZ := Lib.hid hz; clear hz n0 n1
  go_enter Tryd.func14, Tryd.ntmps14
  go_wp2_with fail
  have s_1 := (((Wd.Blk.new w 24 (sA s)).alloc (.cells (rcA r.b r.c r.d r.p r.q) 26)).alloc (.cells (rcA o.b o.c o.d o.p o.q) 26))
  have r_1 := ((blk_at (w.alloc (.cells (sA s) 24)) 26 (rcA r.b r.c r.d r.p r.q) (sz1 _ _ rfl)).alloc (.cells (rcA o.b o.c o.d o.p o.q) 26))
  have o_1 := (blk_at ((w.alloc (.cells (sA s) 24)).alloc (.cells (rcA r.b r.c r.d r.p r.q) 26)) 26 (rcA o.b o.c o.d o.p o.q) (sz1 _ _ (sz1 _ _ rfl)))
  have inv_1 := (((i0.alloc (.cells (sA s) 24)).alloc (.cells (rcA r.b r.c r.d r.p r.q) 26)).alloc (.cells (rcA o.b o.c o.d o.p o.q) 26))
  refine (lives_any _ inv_1.1).mono ?_; rintro e w_1 ⟨rfl, hb_1⟩
  have sc_1 := s_1.below hb_1 s_1.lt; clear s_1
  have rc_1 := r_1.below hb_1 r_1.lt; clear r_1
  have oc_1 := o_1.below hb_1 o_1.lt; clear o_1
  have invc_1 := inv_1.call hb_1; clear inv_1
  clear hb_1
  go_wp2_with (first | refine wpList_row_g rfl 24 _ rfl _ rfl _ _ _ _ sc_1 Tryd.underlying24 rfl (by kernel_rfl) ?_)
  have s_2 := sc_1
  have r_2 := rc_1
  have o_2 := oc_1
  have inv_2 := invc_1
  refine (hfm _ inv_2.1).mono ?_; rintro e w_2 ⟨g, cf, rfl, F_0, hb_2⟩
  have sc_2 := s_2.below hb_2 s_2.lt; clear s_2
  have rc_2 := r_2.below hb_2 r_2.lt; clear r_2
  have oc_2 := o_2.below hb_2 o_2.lt; clear o_2
  have invc_2 := inv_2.call hb_2; clear inv_2
  clear hb_2
  go_wp2_with (first | refine wpList_row_g rfl 24 _ rfl _ rfl _ _ _ _ sc_2 Tryd.underlying24 rfl (by kernel_rfl) ?_)
  have s_3 := sc_2
  have r_3 := rc_2
  have o_3 := oc_2
  have inv_3 := invc_2
  have Fd_3 := F_0
  refine (hls _ inv_3.1).mono ?_; rintro e w_3 ⟨rfl, hb_3⟩
  have sc_3 := s_3.below hb_3 s_3.lt; clear s_3
  have rc_3 := r_3.below hb_3 r_3.lt; clear r_3
  have oc_3 := o_3.below hb_3 o_3.lt; clear o_3
  have Fc_3 := (Fd_3.below hb_3).more hb_3.size; clear Fd_3
  have invc_3 := inv_3.call hb_3; clear inv_3
  clear hb_3
  have s_4 := sc_3
  have r_4 := rc_3
  have o_4 := oc_3
  have inv_4 := invc_3
  have Fd_4 := Fc_3
  have hr := r_4; have ho := o_4; have iv := inv_4; have hF := Fd_4
  clear r_4 o_4 s_4 inv_4 Fd_4 hfm hls i0
  go_wp2_with fail
  generalize hgr : w.heap.size + 1 + 1 = go at *
  generalize hgo : w.heap.size + 1 = gr at *
  clear hgr hgo
  go_loopw [56] (fun i wr => ∃ k : Int, i = .int .i64 k ∧ (k = 0 ∨ k = 1 ∨ k = 2 ∨ k = 3) ∧ Inv w wr ∧ Blk wr gr 26 (rcA r.b r.c r.d r.p r.q) ∧ Blk wr go 26 (rcA o.b o.c o.d o.p o.q) ∧ Stamps wr wr.heap.size (some ⟨g, 0, none⟩) 3 P) (fun i _ => 3 - (intOf i).toNat)
  case atStart => exact ⟨0, rfl, by omega, iv, hr, ho, hF⟩
  case round =>
    clear iv hr ho hF
    obtain ⟨k, rfl, hk, iv, hr, ho, hF⟩ := hrel
    rcases hk with rfl | rfl | rfl | rfl
    · have r1 := hF.rowL 0 0 (by omega) rfl EX0.out
      go_upto_region 11 with (first | refine wpList_at_g rfl 24 _ rfl wr.heap.size _ (sA x0) rfl _ r1 Tryd.underlying24 rfl (by kernel_rfl) ?_ | refine wpList_store_new rfl 24 _ _ rfl rfl wr.heap.size (sA x0) rfl rfl _ #[.int .u16 0, .int .u16 0, .int .u16 0, .int .u16 0, .int .u16 0, .int .u16 0, .int .u16 0, .int .u16 0] wr rfl rfl rfl (by kernel_rfl) (by kernel_rfl) ?_)
      clear r1
      go_wp2_with (first | refine wpList_row_g rfl 24 _ rfl _ rfl _ _ _ _ ((Wd.Blk.new wr 24 (sA x0))) Tryd.underlying24 rfl (by kernel_rfl) ?_)
      have r_5 := (hr.alloc (.cells (sA x0) 24))
      have o_5 := (ho.alloc (.cells (sA x0) 24))
      have x_5 := (Wd.Blk.new wr 24 (sA x0))
      have inv_5 := (iv.alloc (.cells (sA x0) 24))
      have Fd_5 := ((hF.below (Below.alloc (Below.refl (wr).heap.size (wr)) (Nat.le_refl _) (.cells (sA x0) 24))).more (Below.alloc (Below.refl (wr).heap.size (wr)) (Nat.le_refl _) (.cells (sA x0) 24)).size)
      refine (hl0 _ inv_5.1).mono ?_; rintro e w_5 ⟨rfl, hb_5⟩
      have rc_5 := r_5.below hb_5 r_5.lt; clear r_5
      have oc_5 := o_5.below hb_5 o_5.lt; clear o_5
      have xc_5 := x_5.below hb_5 x_5.lt; clear x_5
      have Fc_5 := (Fd_5.below hb_5).more hb_5.size; clear Fd_5
      have invc_5 := inv_5.call hb_5; clear inv_5
      clear hb_5
      go_upto_region 12 with fail
      have r_6 := rc_5
      have o_6 := oc_5
      have x_6 := xc_5
      have inv_6 := invc_5
      have Fd_6 := Fc_5
      generalize hgx : wr.heap.size = gx at *
      clear hgx
      have ZZ := Lib.hid (rk_mk0  inv_6.drew r_6 o_6 Fd_6 x_6)
      clear inv_6 r_6 o_6 Fd_6 x_6
      refine wp_region_held_drew (S := fun w' => Inv w w' ∧ Blk w' gr 26 (rcA r.b r.c r.d r.p r.q) ∧ Blk w' go 26 (rcA o.b o.c o.d o.p o.q) ∧ Stamps w' w'.heap.size (some ⟨g, 0, none⟩) 3 P ∧ Blk w' gx 24 (sA x0) ∧ ldT 24 (.pointer (some ⟨gx, 0, none⟩)) w' = some (sA x0) ∧ w'.cell? ⟨gx, 0, none⟩ = some (.int .u16 x0.y)) (by kernel_rfl) (ZZ.out) (fun hHeld => ?_)
      refine wpAnyH_take (i := 0) (oi := { dst := some 67, op := Op.move (Operand.tmp 18), type := 30, pos := "law.go:51", after := #[], guard := none }) (v := ?_) rfl (by kernel_rfl) (by kernel_rfl) (by kernel_rfl) (fun _ _ _ h => h) (Or.inl ⟨by rfl, ?_⟩) hHeld ?_
      rotate_left
      · intro w hSw
        try dsimp only at hSw
        go_simp
        try with_reducible rfl
      try simp only [Act.put, List.setIfInBounds_toArray, List.set_cons_zero, List.set_cons_succ]
      refine wpAnyH_take (i := 1) (oi := { dst := some 68, op := Op.binOp BinOp.neq 30 (Operand.tmp 67) (Operand.const (Value.int IntKind.i64 0)) 30, type := 4, pos := "law.go:51", after := #[{ on := 0, ground := Ground.data }], guard := none }) (v := ?_) rfl (by kernel_rfl) (by kernel_rfl) (by kernel_rfl) (fun _ _ _ h => h) (Or.inl ⟨by rfl, ?_⟩) hHeld ?_
      rotate_left
      · intro w hSw
        try dsimp only at hSw
        go_simp
        try with_reducible rfl
      try simp only [Act.put, List.setIfInBounds_toArray, List.set_cons_zero, List.set_cons_succ]
      refine wpAnyH_take (i := 2) (oi := { dst := some 69, op := Op.move (Operand.tmp 68), type := 4, pos := "law.go:51", after := #[{ on := 1, ground := Ground.data }], guard := none }) (v := ?_) rfl (by kernel_rfl) (by kernel_rfl) (by kernel_rfl) (fun _ _ _ h => h) (Or.inl ⟨by rfl, ?_⟩) hHeld ?_
      rotate_left
      · intro w hSw
        try dsimp only at hSw
        go_simp
        try with_reducible rfl
      try simp only [Act.put, List.setIfInBounds_toArray, List.set_cons_zero, List.set_cons_succ]
      refine wpAnyH_take (i := 3) (oi := { dst := some 70, op := Op.move (Operand.tmp 17), type := 2, pos := "law.go:51", after := #[{ on := 2, ground := Ground.guard }], guard := some (2, false) }) (v := ?_) rfl (by kernel_rfl) (by kernel_rfl) (by kernel_rfl) (fun _ _ _ h => h) (Or.inl ⟨by rfl, ?_⟩) hHeld ?_
      rotate_left
      · intro w hSw
        try dsimp only at hSw
        go_simp
        try with_reducible rfl
      try simp only [Act.put, List.setIfInBounds_toArray, List.set_cons_zero, List.set_cons_succ]
      refine wpAnyH_take (i := 4) (oi := { dst := some 71, op := Op.move (Operand.tmp 13), type := 2, pos := "law.go:51", after := #[{ on := 2, ground := Ground.guard }], guard := some (2, false) }) (v := ?_) rfl (by kernel_rfl) (by kernel_rfl) (by kernel_rfl) (fun _ _ _ h => h) (Or.inl ⟨by rfl, ?_⟩) hHeld ?_
      rotate_left
      · intro w hSw
        try dsimp only at hSw
        go_simp
        try with_reducible rfl
      try simp only [Act.put, List.setIfInBounds_toArray, List.set_cons_zero, List.set_cons_succ]
      refine wpAnyH_take (i := 5) (oi := { dst := some 72, op := Op.binOp BinOp.neq 2 (Operand.tmp 70) (Operand.tmp 71) 2, type := 4, pos := "law.go:51", after := #[{ on := 3, ground := Ground.data }, { on := 4, ground := Ground.data }, { on := 2, ground := Ground.guard }], guard := some (2, false) }) (v := ?_) rfl (by kernel_rfl) (by kernel_rfl) (by kernel_rfl) (fun _ _ _ h => h) (Or.inl ⟨by rfl, ?_⟩) hHeld ?_
      rotate_left
      · intro w hSw
        try dsimp only at hSw
        go_simp
        try with_reducible rfl
      try simp only [Act.put, List.setIfInBounds_toArray, List.set_cons_zero, List.set_cons_succ]
      refine wpAnyH_take (i := 6) (oi := { dst := some 73, op := Op.pick (Operand.tmp 69) (Operand.const (Value.bool true)) (Operand.tmp 72), type := 4, pos := "law.go:51", after := #[{ on := 2, ground := Ground.data }, { on := 5, ground := Ground.data }], guard := none }) (v := ?_) rfl (by kernel_rfl) (by kernel_rfl) (by kernel_rfl) (fun _ _ _ h => h) (Or.inl ⟨by rfl, ?_⟩) hHeld ?_
      rotate_left
      · intro w hSw
        try dsimp only at hSw
        go_simp
        try with_reducible rfl
      try simp only [Act.put, List.setIfInBounds_toArray, List.set_cons_zero, List.set_cons_succ]
      refine wpAnyH_take (i := 7) (oi := { dst := some 74, op := Op.move (Operand.tmp 73), type := 4, pos := "law.go:51", after := #[{ on := 6, ground := Ground.data }, { on := 2, ground := Ground.chain }], guard := none }) (v := ?_) rfl (by kernel_rfl) (by kernel_rfl) (by kernel_rfl) (fun _ _ _ h => h) (Or.inl ⟨by rfl, ?_⟩) hHeld ?_
      rotate_left
      · intro w hSw
        try dsimp only at hSw
        go_simp
        try with_reducible rfl
      try simp only [Act.put, List.setIfInBounds_toArray, List.set_cons_zero, List.set_cons_succ]
      refine wpAnyH_take (i := 8) (oi := { dst := some 75, op := Op.load 24 (Operand.tmp 16), type := 24, pos := "law.go:51", after := #[{ on := 7, ground := Ground.guard }], guard := some (7, false) }) (v := ?_) rfl (by kernel_rfl) (by kernel_rfl) (by kernel_rfl) (fun _ _ _ h => h) (Or.inl ⟨by rfl, ?_⟩) hHeld ?_
      rotate_left
      · intro w hSw
        try dsimp only at hSw
        go_simp
        try with_reducible rfl
      try simp only [Act.put, List.setIfInBounds_toArray, List.set_cons_zero, List.set_cons_succ]
      refine wpAnyH_ready (rs := [9]) (by kernel_rfl) (by simp) ?_
      refine AllReadyH.cons (o := { dst := some 76, op := Op.call { callee := Callee.value (Operand.func 74), args := #[Operand.tmp 75], argTypes := #[24] }, type := 30, pos := "law.go:51", after := #[{ on := 8, ground := Ground.data }, { on := 7, ground := Ground.chain }, { on := 7, ground := Ground.guard }], guard := some (7, false) }) rfl (fun K hK => ?_) AllReadyH.nil
      go_simp
      refine (hc0 _ hHeld.1.1).mono ?_; rintro e w' ⟨rfl, hbl⟩
      try go_wp2_with fail
      refine hK.out _ _ (rk_on0  hHeld hbl) (fun hHeld2 => ?_)
      clear hK K hHeld; have hHeld := hHeld2; clear hHeld2
      try simp only [Act.put, List.setIfInBounds_toArray, List.set_cons_zero, List.set_cons_succ]
      refine wpAnyH_take (i := 10) (oi := { dst := some 77, op := Op.binOp BinOp.neq 30 (Operand.tmp 76) (Operand.const (Value.int IntKind.i64 0)) 30, type := 4, pos := "law.go:51", after := #[{ on := 9, ground := Ground.data }, { on := 7, ground := Ground.guard }], guard := some (7, false) }) (v := ?_) rfl (by kernel_rfl) (by kernel_rfl) (by kernel_rfl) (fun _ _ _ h => h) (Or.inl ⟨by rfl, ?_⟩) hHeld ?_
      rotate_left
      · intro w hSw
        try dsimp only at hSw
        go_simp
        try with_reducible rfl
      try simp only [Act.put, List.setIfInBounds_toArray, List.set_cons_zero, List.set_cons_succ]
      refine wpAnyH_take (i := 11) (oi := { dst := some 78, op := Op.pick (Operand.tmp 74) (Operand.const (Value.bool true)) (Operand.tmp 77), type := 4, pos := "law.go:51", after := #[{ on := 7, ground := Ground.data }, { on := 10, ground := Ground.data }], guard := none }) (v := ?_) rfl (by kernel_rfl) (by kernel_rfl) (by kernel_rfl) (fun _ _ _ h => h) (Or.inl ⟨by rfl, ?_⟩) hHeld ?_
      rotate_left
      · intro w hSw
        try dsimp only at hSw
        go_simp
        try with_reducible rfl
      try simp only [Act.put, List.setIfInBounds_toArray, List.set_cons_zero, List.set_cons_succ]
      refine wpAnyH_take (i := 12) (oi := { dst := some 79, op := Op.move (Operand.tmp 78), type := 4, pos := "law.go:51", after := #[{ on := 11, ground := Ground.data }, { on := 9, ground := Ground.chain }], guard := none }) (v := ?_) rfl (by kernel_rfl) (by kernel_rfl) (by kernel_rfl) (fun _ _ _ h => h) (Or.inl ⟨by rfl, ?_⟩) hHeld ?_
      rotate_left
      · intro w hSw
        try dsimp only at hSw
        go_simp
        try with_reducible rfl
      try simp only [Act.put, List.setIfInBounds_toArray, List.set_cons_zero, List.set_cons_succ]
      refine wpAnyH_take (i := 13) (oi := { dst := some 80, op := Op.fieldAddr 24 (Operand.tmp 16) 0, type := 0, pos := "law.go:51", after := #[{ on := 12, ground := Ground.guard }], guard := some (12, false) }) (v := ?_) rfl (by kernel_rfl) (by kernel_rfl) (by kernel_rfl) (fun _ _ _ h => h) (Or.inl ⟨by rfl, ?_⟩) hHeld ?_
      rotate_left
      · intro w hSw
        try dsimp only at hSw
        go_simp
        try with_reducible rfl
      try simp only [Act.put, List.setIfInBounds_toArray, List.set_cons_zero, List.set_cons_succ]
      refine wpAnyH_take (i := 14) (oi := { dst := some 81, op := Op.load 22 (Operand.tmp 80), type := 22, pos := "law.go:51", after := #[{ on := 13, ground := Ground.data }, { on := 12, ground := Ground.guard }], guard := some (12, false) }) (v := ?_) rfl (by kernel_rfl) (by kernel_rfl) (by kernel_rfl) (fun _ _ _ h => h) (Or.inl ⟨by rfl, ?_⟩) hHeld ?_
      rotate_left
      · intro w hSw
        try dsimp only at hSw
        go_simp
        try with_reducible rfl
      try simp only [Act.put, List.setIfInBounds_toArray, List.set_cons_zero, List.set_cons_succ]
      refine wpAnyH_take (i := 15) (oi := { dst := some 82, op := Op.binOp BinOp.neq 22 (Operand.tmp 81) (Operand.const (Value.int IntKind.u16 0)) 22, type := 4, pos := "law.go:51", after := #[{ on := 14, ground := Ground.data }, { on := 12, ground := Ground.guard }], guard := some (12, false) }) (v := ?_) rfl (by kernel_rfl) (by kernel_rfl) (by kernel_rfl) (fun _ _ _ h => h) (Or.inl ⟨by rfl, ?_⟩) hHeld ?_
      rotate_left
      · intro w hSw
        try dsimp only at hSw
        go_simp
        try with_reducible rfl
      try simp only [Act.put, List.setIfInBounds_toArray, List.set_cons_zero, List.set_cons_succ]
      refine wpAnyH_take (i := 16) (oi := { dst := some 83, op := Op.move (Operand.tmp 15), type := 3, pos := "law.go:51", after := #[{ on := 12, ground := Ground.guard }], guard := some (12, false) }) (v := ?_) rfl (by kernel_rfl) (by kernel_rfl) (by kernel_rfl) (fun _ _ _ h => h) (Or.inl ⟨by rfl, ?_⟩) hHeld ?_
      rotate_left
      · intro w hSw
        try dsimp only at hSw
        go_simp
        try with_reducible rfl
      try simp only [Act.put, List.setIfInBounds_toArray, List.set_cons_zero, List.set_cons_succ]
      refine wpAnyH_take (i := 17) (oi := { dst := some 84, op := Op.move (Operand.tmp 11), type := 94, pos := "law.go:51", after := #[{ on := 12, ground := Ground.guard }], guard := some (12, false) }) (v := ?_) rfl (by kernel_rfl) (by kernel_rfl) (by kernel_rfl) (fun _ _ _ h => h) (Or.inl ⟨by rfl, ?_⟩) hHeld ?_
      rotate_left
      · intro w hSw
        try dsimp only at hSw
        go_simp
        try with_reducible rfl
      try simp only [Act.put, List.setIfInBounds_toArray, List.set_cons_zero, List.set_cons_succ]
      refine wpAnyH_take (i := 18) (oi := { dst := some 85, op := Op.call { callee := Callee.builtin Builtin.len, args := #[Operand.tmp 84], argTypes := #[94] }, type := 3, pos := "law.go:51", after := #[{ on := 17, ground := Ground.data }, { on := 12, ground := Ground.guard }], guard := some (12, false) }) (v := ?_) rfl (by kernel_rfl) (by kernel_rfl) (by kernel_rfl) (fun _ _ _ h => h) (Or.inl ⟨by rfl, ?_⟩) hHeld ?_
      rotate_left
      · intro w hSw
        try dsimp only at hSw
        go_simp
        try with_reducible rfl
      try simp only [Act.put, List.setIfInBounds_toArray, List.set_cons_zero, List.set_cons_succ]
      refine wpAnyH_take (i := 19) (oi := { dst := some 86, op := Op.binOp BinOp.sub 3 (Operand.tmp 85) (Operand.const (Value.int IntKind.i64 1)) 3, type := 3, pos := "law.go:51", after := #[{ on := 18, ground := Ground.data }, { on := 12, ground := Ground.guard }], guard := some (12, false) }) (v := ?_) rfl (by kernel_rfl) (by kernel_rfl) (by kernel_rfl) (fun _ _ _ h => h) (Or.inl ⟨by rfl, ?_⟩) hHeld ?_
      rotate_left
      · intro w hSw
        try dsimp only at hSw
        go_simp
        try with_reducible rfl
      try simp only [Act.put, List.setIfInBounds_toArray, List.set_cons_zero, List.set_cons_succ]
      refine wpAnyH_take (i := 20) (oi := { dst := some 87, op := Op.binOp BinOp.eql 3 (Operand.tmp 83) (Operand.tmp 86) 3, type := 4, pos := "law.go:51", after := #[{ on := 16, ground := Ground.data }, { on := 19, ground := Ground.data }, { on := 12, ground := Ground.guard }], guard := some (12, false) }) (v := ?_) rfl (by kernel_rfl) (by kernel_rfl) (by kernel_rfl) (fun _ _ _ h => h) (Or.inl ⟨by rfl, ?_⟩) hHeld ?_
      rotate_left
      · intro w hSw
        try dsimp only at hSw
        go_simp
        try with_reducible rfl
      try simp only [Act.put, List.setIfInBounds_toArray, List.set_cons_zero, List.set_cons_succ]
      refine wpAnyH_take (i := 21) (oi := { dst := some 88, op := Op.binOp BinOp.neq 4 (Operand.tmp 82) (Operand.tmp 87) 4, type := 4, pos := "law.go:51", after := #[{ on := 15, ground := Ground.data }, { on := 20, ground := Ground.data }, { on := 12, ground := Ground.guard }], guard := some (12, false) }) (v := ?_) rfl (by kernel_rfl) (by kernel_rfl) (by kernel_rfl) (fun _ _ _ h => h) (Or.inl ⟨by rfl, ?_⟩) hHeld ?_
      rotate_left
      · intro w hSw
        try dsimp only at hSw
        go_simp
        try with_reducible rfl
      try simp only [Act.put, List.setIfInBounds_toArray, List.set_cons_zero, List.set_cons_succ]
      refine wpAnyH_take (i := 22) (oi := { dst := some 89, op := Op.pick (Operand.tmp 79) (Operand.const (Value.bool true)) (Operand.tmp 88), type := 4, pos := "law.go:51", after := #[{ on := 12, ground := Ground.data }, { on := 21, ground := Ground.data }], guard := none }) (v := ?_) rfl (by kernel_rfl) (by kernel_rfl) (by kernel_rfl) (fun _ _ _ h => h) (Or.inl ⟨by rfl, ?_⟩) hHeld ?_
      rotate_left
      · intro w hSw
        try dsimp only at hSw
        go_simp
        try with_reducible rfl
      try simp only [Act.put, List.setIfInBounds_toArray, List.set_cons_zero, List.set_cons_succ]
      refine wpAnyH_take (i := 23) (oi := { dst := some 90, op := Op.move (Operand.tmp 89), type := 4, pos := "law.go:51", after := #[{ on := 22, ground := Ground.data }, { on := 12, ground := Ground.chain }], guard := none }) (v := ?_) rfl (by kernel_rfl) (by kernel_rfl) (by kernel_rfl) (fun _ _ _ h => h) (Or.inl ⟨by rfl, ?_⟩) hHeld ?_
      rotate_left
      · intro w hSw
        try dsimp only at hSw
        go_simp
        try with_reducible rfl
      try simp only [Act.put, List.setIfInBounds_toArray, List.set_cons_zero, List.set_cons_succ]
      refine wpAnyH_take (i := 24) (oi := { dst := some 91, op := Op.move (Operand.tmp 15), type := 3, pos := "law.go:51", after := #[{ on := 23, ground := Ground.guard }], guard := some (23, false) }) (v := ?_) rfl (by kernel_rfl) (by kernel_rfl) (by kernel_rfl) (fun _ _ _ h => h) (Or.inl ⟨by rfl, ?_⟩) hHeld ?_
      rotate_left
      · intro w hSw
        try dsimp only at hSw
        go_simp
        try with_reducible rfl
      try simp only [Act.put, List.setIfInBounds_toArray, List.set_cons_zero, List.set_cons_succ]
      refine wpAnyH_take (i := 25) (oi := { dst := some 92, op := Op.binOp BinOp.gtr 3 (Operand.tmp 91) (Operand.const (Value.int IntKind.i64 0)) 3, type := 4, pos := "law.go:51", after := #[{ on := 24, ground := Ground.data }, { on := 23, ground := Ground.guard }], guard := some (23, false) }) (v := ?_) rfl (by kernel_rfl) (by kernel_rfl) (by kernel_rfl) (fun _ _ _ h => h) (Or.inl ⟨by rfl, ?_⟩) hHeld ?_
      rotate_left
      · intro w hSw
        try dsimp only at hSw
        go_simp
        try with_reducible rfl
      try simp only [Act.put, List.setIfInBounds_toArray, List.set_cons_zero, List.set_cons_succ]
      refine wpAnyH_take (i := 26) (oi := { dst := some 93, op := Op.move (Operand.tmp 92), type := 4, pos := "law.go:51", after := #[{ on := 25, ground := Ground.data }, { on := 23, ground := Ground.chain }, { on := 23, ground := Ground.guard }], guard := some (23, false) }) (v := ?_) rfl (by kernel_rfl) (by kernel_rfl) (by kernel_rfl) (fun _ _ _ h => h) (Or.inl ⟨by rfl, ?_⟩) hHeld ?_
      rotate_left
      · intro w hSw
        try dsimp only at hSw
        go_simp
        try with_reducible rfl
      try simp only [Act.put, List.setIfInBounds_toArray, List.set_cons_zero, List.set_cons_succ]
      refine wpAnyH_take (i := 27) (oi := { dst := some 94, op := Op.load 24 (Operand.tmp 16), type := 24, pos := "law.go:51", after := #[{ on := 26, ground := Ground.guard }], guard := some (26, true) }) (v := undef) rfl (by kernel_rfl) (by kernel_rfl) (by kernel_rfl) (fun _ _ _ h => h) (Or.inr ⟨by rfl, rfl⟩) hHeld ?_
      try simp only [Act.put, List.setIfInBounds_toArray, List.set_cons_zero, List.set_cons_succ]
      refine wpAnyH_take (i := 28) (oi := { dst := some 95, op := Op.move (Operand.tmp 11), type := 94, pos := "law.go:51", after := #[{ on := 26, ground := Ground.guard }], guard := some (26, true) }) (v := undef) rfl (by kernel_rfl) (by kernel_rfl) (by kernel_rfl) (fun _ _ _ h => h) (Or.inr ⟨by rfl, rfl⟩) hHeld ?_
      try simp only [Act.put, List.setIfInBounds_toArray, List.set_cons_zero, List.set_cons_succ]
      refine wpAnyH_take (i := 29) (oi := { dst := some 96, op := Op.move (Operand.tmp 15), type := 3, pos := "law.go:51", after := #[{ on := 26, ground := Ground.guard }], guard := some (26, true) }) (v := undef) rfl (by kernel_rfl) (by kernel_rfl) (by kernel_rfl) (fun _ _ _ h => h) (Or.inr ⟨by rfl, rfl⟩) hHeld ?_
      try simp only [Act.put, List.setIfInBounds_toArray, List.set_cons_zero, List.set_cons_succ]
      refine wpAnyH_take (i := 30) (oi := { dst := some 97, op := Op.binOp BinOp.sub 3 (Operand.tmp 96) (Operand.const (Value.int IntKind.i64 1)) 3, type := 3, pos := "law.go:51", after := #[{ on := 29, ground := Ground.data }, { on := 26, ground := Ground.guard }], guard := some (26, true) }) (v := undef) rfl (by kernel_rfl) (by kernel_rfl) (by kernel_rfl) (fun _ _ _ h => h) (Or.inr ⟨by rfl, rfl⟩) hHeld ?_
      try simp only [Act.put, List.setIfInBounds_toArray, List.set_cons_zero, List.set_cons_succ]
      refine wpAnyH_take (i := 31) (oi := { dst := some 98, op := Op.indexAddr 94 (Operand.tmp 95) (Operand.tmp 97), type := 0, pos := "law.go:51", after := #[{ on := 28, ground := Ground.data }, { on := 30, ground := Ground.data }, { on := 26, ground := Ground.guard }], guard := some (26, true) }) (v := undef) rfl (by kernel_rfl) (by kernel_rfl) (by kernel_rfl) (fun _ _ _ h => h) (Or.inr ⟨by rfl, rfl⟩) hHeld ?_
      try simp only [Act.put, List.setIfInBounds_toArray, List.set_cons_zero, List.set_cons_succ]
      refine wpAnyH_take (i := 32) (oi := { dst := some 99, op := Op.load 24 (Operand.tmp 98), type := 24, pos := "law.go:51", after := #[{ on := 31, ground := Ground.data }, { on := 26, ground := Ground.guard }], guard := some (26, true) }) (v := undef) rfl (by kernel_rfl) (by kernel_rfl) (by kernel_rfl) (fun _ _ _ h => h) (Or.inr ⟨by rfl, rfl⟩) hHeld ?_
      try simp only [Act.put, List.setIfInBounds_toArray, List.set_cons_zero, List.set_cons_succ]
      refine wpAnyH_take (i := 33) (oi := { dst := some 100, op := Op.binOp BinOp.eql 24 (Operand.tmp 94) (Operand.tmp 99) 24, type := 4, pos := "law.go:51", after := #[{ on := 27, ground := Ground.data }, { on := 32, ground := Ground.data }, { on := 26, ground := Ground.guard }], guard := some (26, true) }) (v := undef) rfl (by kernel_rfl) (by kernel_rfl) (by kernel_rfl) (fun _ _ _ h => h) (Or.inr ⟨by rfl, rfl⟩) hHeld ?_
      try simp only [Act.put, List.setIfInBounds_toArray, List.set_cons_zero, List.set_cons_succ]
      refine wpAnyH_take (i := 34) (oi := { dst := some 101, op := Op.pick (Operand.tmp 93) (Operand.tmp 100) (Operand.const (Value.bool false)), type := 4, pos := "law.go:51", after := #[{ on := 26, ground := Ground.data }, { on := 33, ground := Ground.data }, { on := 23, ground := Ground.guard }], guard := some (23, false) }) (v := ?_) rfl (by kernel_rfl) (by kernel_rfl) (by kernel_rfl) (fun _ _ _ h => h) (Or.inl ⟨by rfl, ?_⟩) hHeld ?_
      rotate_left
      · intro w hSw
        try dsimp only at hSw
        go_simp
        try with_reducible rfl
      try simp only [Act.put, List.setIfInBounds_toArray, List.set_cons_zero, List.set_cons_succ]
      refine wpAnyH_take (i := 35) (oi := { dst := some 102, op := Op.pick (Operand.tmp 90) (Operand.const (Value.bool true)) (Operand.tmp 101), type := 4, pos := "law.go:51", after := #[{ on := 23, ground := Ground.data }, { on := 34, ground := Ground.data }], guard := none }) (v := ?_) rfl (by kernel_rfl) (by kernel_rfl) (by kernel_rfl) (fun _ _ _ h => h) (Or.inl ⟨by rfl, ?_⟩) hHeld ?_
      rotate_left
      · intro w hSw
        try dsimp only at hSw
        go_simp
        try with_reducible rfl
      try simp only [Act.put, List.setIfInBounds_toArray, List.set_cons_zero, List.set_cons_succ]
      refine wpAnyH_done (by kernel_rfl) ?_ _
      obtain ⟨jv, jr, jo, jF, _⟩ := hHeld; clear ZZ
      go_wp2_with fail
      go_roundw
      case rel => exact ⟨1, by go_num, by omega, jv, jr, jo, jF⟩
      case measure => simp [intOf]
    · have r1 := hF.rowL 1 8 (by omega) rfl EX1.out
      go_upto_region 11 with (first | refine wpList_at_g rfl 24 _ rfl wr.heap.size _ (sA x1) rfl _ r1 Tryd.underlying24 rfl (by kernel_rfl) ?_ | refine wpList_store_new rfl 24 _ _ rfl rfl wr.heap.size (sA x1) rfl rfl _ #[.int .u16 0, .int .u16 0, .int .u16 0, .int .u16 0, .int .u16 0, .int .u16 0, .int .u16 0, .int .u16 0] wr rfl rfl rfl (by kernel_rfl) (by kernel_rfl) ?_)
      clear r1
      go_wp2_with (first | refine wpList_row_g rfl 24 _ rfl _ rfl _ _ _ _ ((Wd.Blk.new wr 24 (sA x1))) Tryd.underlying24 rfl (by kernel_rfl) ?_)
      have r_7 := (hr.alloc (.cells (sA x1) 24))
      have o_7 := (ho.alloc (.cells (sA x1) 24))
      have x_7 := (Wd.Blk.new wr 24 (sA x1))
      have inv_7 := (iv.alloc (.cells (sA x1) 24))
      have Fd_7 := ((hF.below (Below.alloc (Below.refl (wr).heap.size (wr)) (Nat.le_refl _) (.cells (sA x1) 24))).more (Below.alloc (Below.refl (wr).heap.size (wr)) (Nat.le_refl _) (.cells (sA x1) 24)).size)
      refine (hl1 _ inv_7.1).mono ?_; rintro e w_7 ⟨rfl, hb_7⟩
      have rc_7 := r_7.below hb_7 r_7.lt; clear r_7
      have oc_7 := o_7.below hb_7 o_7.lt; clear o_7
      have xc_7 := x_7.below hb_7 x_7.lt; clear x_7
      have Fc_7 := (Fd_7.below hb_7).more hb_7.size; clear Fd_7
      have invc_7 := inv_7.call hb_7; clear inv_7
      clear hb_7
      go_upto_region 12 with fail
      have r_8 := rc_7
      have o_8 := oc_7
      have x_8 := xc_7
      have inv_8 := invc_7
      have Fd_8 := Fc_7
      generalize hgx : wr.heap.size = gx at *
      clear hgx
      have ZZ := Lib.hid (rk_mk1  (x0 := x0) (by decide) EX0.out inv_8.drew r_8 o_8 Fd_8 x_8)
      clear inv_8 r_8 o_8 Fd_8 x_8
      refine wp_region_held_drew (S := fun w' => Inv w w' ∧ Blk w' gr 26 (rcA r.b r.c r.d r.p r.q) ∧ Blk w' go 26 (rcA o.b o.c o.d o.p o.q) ∧ Stamps w' w'.heap.size (some ⟨g, 0, none⟩) 3 P ∧ Blk w' gx 24 (sA x1) ∧ ldT 24 (.pointer (some ⟨gx, 0, none⟩)) w' = some (sA x1) ∧ w'.cell? ⟨gx, 0, none⟩ = some (.int .u16 x1.y) ∧ ldT 24 (.pointer (some ⟨g, 0, none⟩)) w' = some (sA x0)) (by kernel_rfl) (ZZ.out) (fun hHeld => ?_)
      refine wpAnyH_take (i := 0) (oi := { dst := some 67, op := Op.move (Operand.tmp 18), type := 30, pos := "law.go:51", after := #[], guard := none }) (v := ?_) rfl (by kernel_rfl) (by kernel_rfl) (by kernel_rfl) (fun _ _ _ h => h) (Or.inl ⟨by rfl, ?_⟩) hHeld ?_
      rotate_left
      · intro w hSw
        try dsimp only at hSw
        go_simp
        try with_reducible rfl
      try simp only [Act.put, List.setIfInBounds_toArray, List.set_cons_zero, List.set_cons_succ]
      refine wpAnyH_take (i := 1) (oi := { dst := some 68, op := Op.binOp BinOp.neq 30 (Operand.tmp 67) (Operand.const (Value.int IntKind.i64 0)) 30, type := 4, pos := "law.go:51", after := #[{ on := 0, ground := Ground.data }], guard := none }) (v := ?_) rfl (by kernel_rfl) (by kernel_rfl) (by kernel_rfl) (fun _ _ _ h => h) (Or.inl ⟨by rfl, ?_⟩) hHeld ?_
      rotate_left
      · intro w hSw
        try dsimp only at hSw
        go_simp
        try with_reducible rfl
      try simp only [Act.put, List.setIfInBounds_toArray, List.set_cons_zero, List.set_cons_succ]
      refine wpAnyH_take (i := 2) (oi := { dst := some 69, op := Op.move (Operand.tmp 68), type := 4, pos := "law.go:51", after := #[{ on := 1, ground := Ground.data }], guard := none }) (v := ?_) rfl (by kernel_rfl) (by kernel_rfl) (by kernel_rfl) (fun _ _ _ h => h) (Or.inl ⟨by rfl, ?_⟩) hHeld ?_
      rotate_left
      · intro w hSw
        try dsimp only at hSw
        go_simp
        try with_reducible rfl
      try simp only [Act.put, List.setIfInBounds_toArray, List.set_cons_zero, List.set_cons_succ]
      refine wpAnyH_take (i := 3) (oi := { dst := some 70, op := Op.move (Operand.tmp 17), type := 2, pos := "law.go:51", after := #[{ on := 2, ground := Ground.guard }], guard := some (2, false) }) (v := ?_) rfl (by kernel_rfl) (by kernel_rfl) (by kernel_rfl) (fun _ _ _ h => h) (Or.inl ⟨by rfl, ?_⟩) hHeld ?_
      rotate_left
      · intro w hSw
        try dsimp only at hSw
        go_simp
        try with_reducible rfl
      try simp only [Act.put, List.setIfInBounds_toArray, List.set_cons_zero, List.set_cons_succ]
      refine wpAnyH_take (i := 4) (oi := { dst := some 71, op := Op.move (Operand.tmp 13), type := 2, pos := "law.go:51", after := #[{ on := 2, ground := Ground.guard }], guard := some (2, false) }) (v := ?_) rfl (by kernel_rfl) (by kernel_rfl) (by kernel_rfl) (fun _ _ _ h => h) (Or.inl ⟨by rfl, ?_⟩) hHeld ?_
      rotate_left
      · intro w hSw
        try dsimp only at hSw
        go_simp
        try with_reducible rfl
      try simp only [Act.put, List.setIfInBounds_toArray, List.set_cons_zero, List.set_cons_succ]
      refine wpAnyH_take (i := 5) (oi := { dst := some 72, op := Op.binOp BinOp.neq 2 (Operand.tmp 70) (Operand.tmp 71) 2, type := 4, pos := "law.go:51", after := #[{ on := 3, ground := Ground.data }, { on := 4, ground := Ground.data }, { on := 2, ground := Ground.guard }], guard := some (2, false) }) (v := ?_) rfl (by kernel_rfl) (by kernel_rfl) (by kernel_rfl) (fun _ _ _ h => h) (Or.inl ⟨by rfl, ?_⟩) hHeld ?_
      rotate_left
      · intro w hSw
        try dsimp only at hSw
        go_simp
        try with_reducible rfl
      try simp only [Act.put, List.setIfInBounds_toArray, List.set_cons_zero, List.set_cons_succ]
      refine wpAnyH_take (i := 6) (oi := { dst := some 73, op := Op.pick (Operand.tmp 69) (Operand.const (Value.bool true)) (Operand.tmp 72), type := 4, pos := "law.go:51", after := #[{ on := 2, ground := Ground.data }, { on := 5, ground := Ground.data }], guard := none }) (v := ?_) rfl (by kernel_rfl) (by kernel_rfl) (by kernel_rfl) (fun _ _ _ h => h) (Or.inl ⟨by rfl, ?_⟩) hHeld ?_
      rotate_left
      · intro w hSw
        try dsimp only at hSw
        go_simp
        try with_reducible rfl
      try simp only [Act.put, List.setIfInBounds_toArray, List.set_cons_zero, List.set_cons_succ]
      refine wpAnyH_take (i := 7) (oi := { dst := some 74, op := Op.move (Operand.tmp 73), type := 4, pos := "law.go:51", after := #[{ on := 6, ground := Ground.data }, { on := 2, ground := Ground.chain }], guard := none }) (v := ?_) rfl (by kernel_rfl) (by kernel_rfl) (by kernel_rfl) (fun _ _ _ h => h) (Or.inl ⟨by rfl, ?_⟩) hHeld ?_
      rotate_left
      · intro w hSw
        try dsimp only at hSw
        go_simp
        try with_reducible rfl
      try simp only [Act.put, List.setIfInBounds_toArray, List.set_cons_zero, List.set_cons_succ]
      refine wpAnyH_take (i := 8) (oi := { dst := some 75, op := Op.load 24 (Operand.tmp 16), type := 24, pos := "law.go:51", after := #[{ on := 7, ground := Ground.guard }], guard := some (7, false) }) (v := ?_) rfl (by kernel_rfl) (by kernel_rfl) (by kernel_rfl) (fun _ _ _ h => h) (Or.inl ⟨by rfl, ?_⟩) hHeld ?_
      rotate_left
      · intro w hSw
        try dsimp only at hSw
        go_simp
        try with_reducible rfl
      try simp only [Act.put, List.setIfInBounds_toArray, List.set_cons_zero, List.set_cons_succ]
      refine wpAnyH_ready (rs := [9]) (by kernel_rfl) (by simp) ?_
      refine AllReadyH.cons (o := { dst := some 76, op := Op.call { callee := Callee.value (Operand.func 74), args := #[Operand.tmp 75], argTypes := #[24] }, type := 30, pos := "law.go:51", after := #[{ on := 8, ground := Ground.data }, { on := 7, ground := Ground.chain }, { on := 7, ground := Ground.guard }], guard := some (7, false) }) rfl (fun K hK => ?_) AllReadyH.nil
      go_simp
      refine (hc1 _ hHeld.1.1).mono ?_; rintro e w' ⟨rfl, hbl⟩
      try go_wp2_with fail
      refine hK.out _ _ (rk_on1  (x0 := x0) (by decide) EX0.out hHeld hbl) (fun hHeld2 => ?_)
      clear hK K hHeld; have hHeld := hHeld2; clear hHeld2
      try simp only [Act.put, List.setIfInBounds_toArray, List.set_cons_zero, List.set_cons_succ]
      refine wpAnyH_take (i := 10) (oi := { dst := some 77, op := Op.binOp BinOp.neq 30 (Operand.tmp 76) (Operand.const (Value.int IntKind.i64 0)) 30, type := 4, pos := "law.go:51", after := #[{ on := 9, ground := Ground.data }, { on := 7, ground := Ground.guard }], guard := some (7, false) }) (v := ?_) rfl (by kernel_rfl) (by kernel_rfl) (by kernel_rfl) (fun _ _ _ h => h) (Or.inl ⟨by rfl, ?_⟩) hHeld ?_
      rotate_left
      · intro w hSw
        try dsimp only at hSw
        go_simp
        try with_reducible rfl
      try simp only [Act.put, List.setIfInBounds_toArray, List.set_cons_zero, List.set_cons_succ]
      refine wpAnyH_take (i := 11) (oi := { dst := some 78, op := Op.pick (Operand.tmp 74) (Operand.const (Value.bool true)) (Operand.tmp 77), type := 4, pos := "law.go:51", after := #[{ on := 7, ground := Ground.data }, { on := 10, ground := Ground.data }], guard := none }) (v := ?_) rfl (by kernel_rfl) (by kernel_rfl) (by kernel_rfl) (fun _ _ _ h => h) (Or.inl ⟨by rfl, ?_⟩) hHeld ?_
      rotate_left
      · intro w hSw
        try dsimp only at hSw
        go_simp
        try with_reducible rfl
      try simp only [Act.put, List.setIfInBounds_toArray, List.set_cons_zero, List.set_cons_succ]
      refine wpAnyH_take (i := 12) (oi := { dst := some 79, op := Op.move (Operand.tmp 78), type := 4, pos := "law.go:51", after := #[{ on := 11, ground := Ground.data }, { on := 9, ground := Ground.chain }], guard := none }) (v := ?_) rfl (by kernel_rfl) (by kernel_rfl) (by kernel_rfl) (fun _ _ _ h => h) (Or.inl ⟨by rfl, ?_⟩) hHeld ?_
      rotate_left
      · intro w hSw
        try dsimp only at hSw
        go_simp
        try with_reducible rfl
      try simp only [Act.put, List.setIfInBounds_toArray, List.set_cons_zero, List.set_cons_succ]
      refine wpAnyH_take (i := 13) (oi := { dst := some 80, op := Op.fieldAddr 24 (Operand.tmp 16) 0, type := 0, pos := "law.go:51", after := #[{ on := 12, ground := Ground.guard }], guard := some (12, false) }) (v := ?_) rfl (by kernel_rfl) (by kernel_rfl) (by kernel_rfl) (fun _ _ _ h => h) (Or.inl ⟨by rfl, ?_⟩) hHeld ?_
      rotate_left
      · intro w hSw
        try dsimp only at hSw
        go_simp
        try with_reducible rfl
      try simp only [Act.put, List.setIfInBounds_toArray, List.set_cons_zero, List.set_cons_succ]
      refine wpAnyH_take (i := 14) (oi := { dst := some 81, op := Op.load 22 (Operand.tmp 80), type := 22, pos := "law.go:51", after := #[{ on := 13, ground := Ground.data }, { on := 12, ground := Ground.guard }], guard := some (12, false) }) (v := ?_) rfl (by kernel_rfl) (by kernel_rfl) (by kernel_rfl) (fun _ _ _ h => h) (Or.inl ⟨by rfl, ?_⟩) hHeld ?_
      rotate_left
      · intro w hSw
        try dsimp only at hSw
        go_simp
        try with_reducible rfl
      try simp only [Act.put, List.setIfInBounds_toArray, List.set_cons_zero, List.set_cons_succ]
      refine wpAnyH_take (i := 15) (oi := { dst := some 82, op := Op.binOp BinOp.neq 22 (Operand.tmp 81) (Operand.const (Value.int IntKind.u16 0)) 22, type := 4, pos := "law.go:51", after := #[{ on := 14, ground := Ground.data }, { on := 12, ground := Ground.guard }], guard := some (12, false) }) (v := ?_) rfl (by kernel_rfl) (by kernel_rfl) (by kernel_rfl) (fun _ _ _ h => h) (Or.inl ⟨by rfl, ?_⟩) hHeld ?_
      rotate_left
      · intro w hSw
        try dsimp only at hSw
        go_simp
        try with_reducible rfl
      try simp only [Act.put, List.setIfInBounds_toArray, List.set_cons_zero, List.set_cons_succ]
      refine wpAnyH_take (i := 16) (oi := { dst := some 83, op := Op.move (Operand.tmp 15), type := 3, pos := "law.go:51", after := #[{ on := 12, ground := Ground.guard }], guard := some (12, false) }) (v := ?_) rfl (by kernel_rfl) (by kernel_rfl) (by kernel_rfl) (fun _ _ _ h => h) (Or.inl ⟨by rfl, ?_⟩) hHeld ?_
      rotate_left
      · intro w hSw
        try dsimp only at hSw
        go_simp
        try with_reducible rfl
      try simp only [Act.put, List.setIfInBounds_toArray, List.set_cons_zero, List.set_cons_succ]
      refine wpAnyH_take (i := 17) (oi := { dst := some 84, op := Op.move (Operand.tmp 11), type := 94, pos := "law.go:51", after := #[{ on := 12, ground := Ground.guard }], guard := some (12, false) }) (v := ?_) rfl (by kernel_rfl) (by kernel_rfl) (by kernel_rfl) (fun _ _ _ h => h) (Or.inl ⟨by rfl, ?_⟩) hHeld ?_
      rotate_left
      · intro w hSw
        try dsimp only at hSw
        go_simp
        try with_reducible rfl
      try simp only [Act.put, List.setIfInBounds_toArray, List.set_cons_zero, List.set_cons_succ]
      refine wpAnyH_take (i := 18) (oi := { dst := some 85, op := Op.call { callee := Callee.builtin Builtin.len, args := #[Operand.tmp 84], argTypes := #[94] }, type := 3, pos := "law.go:51", after := #[{ on := 17, ground := Ground.data }, { on := 12, ground := Ground.guard }], guard := some (12, false) }) (v := ?_) rfl (by kernel_rfl) (by kernel_rfl) (by kernel_rfl) (fun _ _ _ h => h) (Or.inl ⟨by rfl, ?_⟩) hHeld ?_
      rotate_left
      · intro w hSw
        try dsimp only at hSw
        go_simp
        try with_reducible rfl
      try simp only [Act.put, List.setIfInBounds_toArray, List.set_cons_zero, List.set_cons_succ]
      refine wpAnyH_take (i := 19) (oi := { dst := some 86, op := Op.binOp BinOp.sub 3 (Operand.tmp 85) (Operand.const (Value.int IntKind.i64 1)) 3, type := 3, pos := "law.go:51", after := #[{ on := 18, ground := Ground.data }, { on := 12, ground := Ground.guard }], guard := some (12, false) }) (v := ?_) rfl (by kernel_rfl) (by kernel_rfl) (by kernel_rfl) (fun _ _ _ h => h) (Or.inl ⟨by rfl, ?_⟩) hHeld ?_
      rotate_left
      · intro w hSw
        try dsimp only at hSw
        go_simp
        try with_reducible rfl
      try simp only [Act.put, List.setIfInBounds_toArray, List.set_cons_zero, List.set_cons_succ]
      refine wpAnyH_take (i := 20) (oi := { dst := some 87, op := Op.binOp BinOp.eql 3 (Operand.tmp 83) (Operand.tmp 86) 3, type := 4, pos := "law.go:51", after := #[{ on := 16, ground := Ground.data }, { on := 19, ground := Ground.data }, { on := 12, ground := Ground.guard }], guard := some (12, false) }) (v := ?_) rfl (by kernel_rfl) (by kernel_rfl) (by kernel_rfl) (fun _ _ _ h => h) (Or.inl ⟨by rfl, ?_⟩) hHeld ?_
      rotate_left
      · intro w hSw
        try dsimp only at hSw
        go_simp
        try with_reducible rfl
      try simp only [Act.put, List.setIfInBounds_toArray, List.set_cons_zero, List.set_cons_succ]
      refine wpAnyH_take (i := 21) (oi := { dst := some 88, op := Op.binOp BinOp.neq 4 (Operand.tmp 82) (Operand.tmp 87) 4, type := 4, pos := "law.go:51", after := #[{ on := 15, ground := Ground.data }, { on := 20, ground := Ground.data }, { on := 12, ground := Ground.guard }], guard := some (12, false) }) (v := ?_) rfl (by kernel_rfl) (by kernel_rfl) (by kernel_rfl) (fun _ _ _ h => h) (Or.inl ⟨by rfl, ?_⟩) hHeld ?_
      rotate_left
      · intro w hSw
        try dsimp only at hSw
        go_simp
        try with_reducible rfl
      try simp only [Act.put, List.setIfInBounds_toArray, List.set_cons_zero, List.set_cons_succ]
      refine wpAnyH_take (i := 22) (oi := { dst := some 89, op := Op.pick (Operand.tmp 79) (Operand.const (Value.bool true)) (Operand.tmp 88), type := 4, pos := "law.go:51", after := #[{ on := 12, ground := Ground.data }, { on := 21, ground := Ground.data }], guard := none }) (v := ?_) rfl (by kernel_rfl) (by kernel_rfl) (by kernel_rfl) (fun _ _ _ h => h) (Or.inl ⟨by rfl, ?_⟩) hHeld ?_
      rotate_left
      · intro w hSw
        try dsimp only at hSw
        go_simp
        try with_reducible rfl
      try simp only [Act.put, List.setIfInBounds_toArray, List.set_cons_zero, List.set_cons_succ]
      refine wpAnyH_take (i := 23) (oi := { dst := some 90, op := Op.move (Operand.tmp 89), type := 4, pos := "law.go:51", after := #[{ on := 22, ground := Ground.data }, { on := 12, ground := Ground.chain }], guard := none }) (v := ?_) rfl (by kernel_rfl) (by kernel_rfl) (by kernel_rfl) (fun _ _ _ h => h) (Or.inl ⟨by rfl, ?_⟩) hHeld ?_
      rotate_left
      · intro w hSw
        try dsimp only at hSw
        go_simp
        try with_reducible rfl
      try simp only [Act.put, List.setIfInBounds_toArray, List.set_cons_zero, List.set_cons_succ]
      refine wpAnyH_take (i := 24) (oi := { dst := some 91, op := Op.move (Operand.tmp 15), type := 3, pos := "law.go:51", after := #[{ on := 23, ground := Ground.guard }], guard := some (23, false) }) (v := ?_) rfl (by kernel_rfl) (by kernel_rfl) (by kernel_rfl) (fun _ _ _ h => h) (Or.inl ⟨by rfl, ?_⟩) hHeld ?_
      rotate_left
      · intro w hSw
        try dsimp only at hSw
        go_simp
        try with_reducible rfl
      try simp only [Act.put, List.setIfInBounds_toArray, List.set_cons_zero, List.set_cons_succ]
      refine wpAnyH_take (i := 25) (oi := { dst := some 92, op := Op.binOp BinOp.gtr 3 (Operand.tmp 91) (Operand.const (Value.int IntKind.i64 0)) 3, type := 4, pos := "law.go:51", after := #[{ on := 24, ground := Ground.data }, { on := 23, ground := Ground.guard }], guard := some (23, false) }) (v := ?_) rfl (by kernel_rfl) (by kernel_rfl) (by kernel_rfl) (fun _ _ _ h => h) (Or.inl ⟨by rfl, ?_⟩) hHeld ?_
      rotate_left
      · intro w hSw
        try dsimp only at hSw
        go_simp
        try with_reducible rfl
      try simp only [Act.put, List.setIfInBounds_toArray, List.set_cons_zero, List.set_cons_succ]
      refine wpAnyH_take (i := 26) (oi := { dst := some 93, op := Op.move (Operand.tmp 92), type := 4, pos := "law.go:51", after := #[{ on := 25, ground := Ground.data }, { on := 23, ground := Ground.chain }, { on := 23, ground := Ground.guard }], guard := some (23, false) }) (v := ?_) rfl (by kernel_rfl) (by kernel_rfl) (by kernel_rfl) (fun _ _ _ h => h) (Or.inl ⟨by rfl, ?_⟩) hHeld ?_
      rotate_left
      · intro w hSw
        try dsimp only at hSw
        go_simp
        try with_reducible rfl
      try simp only [Act.put, List.setIfInBounds_toArray, List.set_cons_zero, List.set_cons_succ]
      refine wpAnyH_take (i := 27) (oi := { dst := some 94, op := Op.load 24 (Operand.tmp 16), type := 24, pos := "law.go:51", after := #[{ on := 26, ground := Ground.guard }], guard := some (26, true) }) (v := ?_) rfl (by kernel_rfl) (by kernel_rfl) (by kernel_rfl) (fun _ _ _ h => h) (Or.inl ⟨by rfl, ?_⟩) hHeld ?_
      rotate_left
      · intro w hSw
        try dsimp only at hSw
        go_simp
        try with_reducible rfl
      try simp only [Act.put, List.setIfInBounds_toArray, List.set_cons_zero, List.set_cons_succ]
      refine wpAnyH_take (i := 28) (oi := { dst := some 95, op := Op.move (Operand.tmp 11), type := 94, pos := "law.go:51", after := #[{ on := 26, ground := Ground.guard }], guard := some (26, true) }) (v := ?_) rfl (by kernel_rfl) (by kernel_rfl) (by kernel_rfl) (fun _ _ _ h => h) (Or.inl ⟨by rfl, ?_⟩) hHeld ?_
      rotate_left
      · intro w hSw
        try dsimp only at hSw
        go_simp
        try with_reducible rfl
      try simp only [Act.put, List.setIfInBounds_toArray, List.set_cons_zero, List.set_cons_succ]
      refine wpAnyH_take (i := 29) (oi := { dst := some 96, op := Op.move (Operand.tmp 15), type := 3, pos := "law.go:51", after := #[{ on := 26, ground := Ground.guard }], guard := some (26, true) }) (v := ?_) rfl (by kernel_rfl) (by kernel_rfl) (by kernel_rfl) (fun _ _ _ h => h) (Or.inl ⟨by rfl, ?_⟩) hHeld ?_
      rotate_left
      · intro w hSw
        try dsimp only at hSw
        go_simp
        try with_reducible rfl
      try simp only [Act.put, List.setIfInBounds_toArray, List.set_cons_zero, List.set_cons_succ]
      refine wpAnyH_take (i := 30) (oi := { dst := some 97, op := Op.binOp BinOp.sub 3 (Operand.tmp 96) (Operand.const (Value.int IntKind.i64 1)) 3, type := 3, pos := "law.go:51", after := #[{ on := 29, ground := Ground.data }, { on := 26, ground := Ground.guard }], guard := some (26, true) }) (v := ?_) rfl (by kernel_rfl) (by kernel_rfl) (by kernel_rfl) (fun _ _ _ h => h) (Or.inl ⟨by rfl, ?_⟩) hHeld ?_
      rotate_left
      · intro w hSw
        try dsimp only at hSw
        go_simp
        try with_reducible rfl
      try simp only [Act.put, List.setIfInBounds_toArray, List.set_cons_zero, List.set_cons_succ]
      refine wpAnyH_take (i := 31) (oi := { dst := some 98, op := Op.indexAddr 94 (Operand.tmp 95) (Operand.tmp 97), type := 0, pos := "law.go:51", after := #[{ on := 28, ground := Ground.data }, { on := 30, ground := Ground.data }, { on := 26, ground := Ground.guard }], guard := some (26, true) }) (v := ?_) rfl (by kernel_rfl) (by kernel_rfl) (by kernel_rfl) (fun _ _ _ h => h) (Or.inl ⟨by rfl, ?_⟩) hHeld ?_
      rotate_left
      · intro w hSw
        try dsimp only at hSw
        go_simp
        try with_reducible rfl
      try simp only [Act.put, List.setIfInBounds_toArray, List.set_cons_zero, List.set_cons_succ]
      refine wpAnyH_take (i := 32) (oi := { dst := some 99, op := Op.load 24 (Operand.tmp 98), type := 24, pos := "law.go:51", after := #[{ on := 31, ground := Ground.data }, { on := 26, ground := Ground.guard }], guard := some (26, true) }) (v := ?_) rfl (by kernel_rfl) (by kernel_rfl) (by kernel_rfl) (fun _ _ _ h => h) (Or.inl ⟨by rfl, ?_⟩) hHeld ?_
      rotate_left
      · intro w hSw
        try dsimp only at hSw
        go_simp
        try with_reducible rfl
      try simp only [Act.put, List.setIfInBounds_toArray, List.set_cons_zero, List.set_cons_succ]
      refine wpAnyH_take (i := 33) (oi := { dst := some 100, op := Op.binOp BinOp.eql 24 (Operand.tmp 94) (Operand.tmp 99) 24, type := 4, pos := "law.go:51", after := #[{ on := 27, ground := Ground.data }, { on := 32, ground := Ground.data }, { on := 26, ground := Ground.guard }], guard := some (26, true) }) (v := ?_) rfl (by kernel_rfl) (by kernel_rfl) (by kernel_rfl) (fun _ _ _ h => h) (Or.inl ⟨by rfl, ?_⟩) hHeld ?_
      rotate_left
      · intro w hSw
        try dsimp only at hSw
        go_simp
        try with_reducible rfl
      try simp only [Act.put, List.setIfInBounds_toArray, List.set_cons_zero, List.set_cons_succ]
      refine wpAnyH_take (i := 34) (oi := { dst := some 101, op := Op.pick (Operand.tmp 93) (Operand.tmp 100) (Operand.const (Value.bool false)), type := 4, pos := "law.go:51", after := #[{ on := 26, ground := Ground.data }, { on := 33, ground := Ground.data }, { on := 23, ground := Ground.guard }], guard := some (23, false) }) (v := ?_) rfl (by kernel_rfl) (by kernel_rfl) (by kernel_rfl) (fun _ _ _ h => h) (Or.inl ⟨by rfl, ?_⟩) hHeld ?_
      rotate_left
      · intro w hSw
        try dsimp only at hSw
        go_simp
        try with_reducible rfl
      try simp only [Act.put, List.setIfInBounds_toArray, List.set_cons_zero, List.set_cons_succ]
      refine wpAnyH_take (i := 35) (oi := { dst := some 102, op := Op.pick (Operand.tmp 90) (Operand.const (Value.bool true)) (Operand.tmp 101), type := 4, pos := "law.go:51", after := #[{ on := 23, ground := Ground.data }, { on := 34, ground := Ground.data }], guard := none }) (v := ?_) rfl (by kernel_rfl) (by kernel_rfl) (by kernel_rfl) (fun _ _ _ h => h) (Or.inl ⟨by rfl, ?_⟩) hHeld ?_
      rotate_left
      · intro w hSw
        try dsimp only at hSw
        go_simp
        try with_reducible rfl
      try simp only [Act.put, List.setIfInBounds_toArray, List.set_cons_zero, List.set_cons_succ]
      refine wpAnyH_done (by kernel_rfl) ?_ _
      obtain ⟨jv, jr, jo, jF, _⟩ := hHeld; clear ZZ
      go_wp2_with fail
      go_roundw
      case rel => exact ⟨2, by go_num, by omega, jv, jr, jo, jF⟩
      case measure => simp [intOf]
    · have r1 := hF.rowL 2 16 (by omega) rfl EX2.out
      go_upto_region 11 with (first | refine wpList_at_g rfl 24 _ rfl wr.heap.size _ (sA x2) rfl _ r1 Tryd.underlying24 rfl (by kernel_rfl) ?_ | refine wpList_store_new rfl 24 _ _ rfl rfl wr.heap.size (sA x2) rfl rfl _ #[.int .u16 0, .int .u16 0, .int .u16 0, .int .u16 0, .int .u16 0, .int .u16 0, .int .u16 0, .int .u16 0] wr rfl rfl rfl (by kernel_rfl) (by kernel_rfl) ?_)
      clear r1
      go_wp2_with (first | refine wpList_row_g rfl 24 _ rfl _ rfl _ _ _ _ ((Wd.Blk.new wr 24 (sA x2))) Tryd.underlying24 rfl (by kernel_rfl) ?_)
      have r_9 := (hr.alloc (.cells (sA x2) 24))
      have o_9 := (ho.alloc (.cells (sA x2) 24))
      have x_9 := (Wd.Blk.new wr 24 (sA x2))
      have inv_9 := (iv.alloc (.cells (sA x2) 24))
      have Fd_9 := ((hF.below (Below.alloc (Below.refl (wr).heap.size (wr)) (Nat.le_refl _) (.cells (sA x2) 24))).more (Below.alloc (Below.refl (wr).heap.size (wr)) (Nat.le_refl _) (.cells (sA x2) 24)).size)
      refine (hl2 _ inv_9.1).mono ?_; rintro e w_9 ⟨rfl, hb_9⟩
      have rc_9 := r_9.below hb_9 r_9.lt; clear r_9
      have oc_9 := o_9.below hb_9 o_9.lt; clear o_9
      have xc_9 := x_9.below hb_9 x_9.lt; clear x_9
      have Fc_9 := (Fd_9.below hb_9).more hb_9.size; clear Fd_9
      have invc_9 := inv_9.call hb_9; clear inv_9
      clear hb_9
      go_upto_region 12 with fail
      have r_10 := rc_9
      have o_10 := oc_9
      have x_10 := xc_9
      have inv_10 := invc_9
      have Fd_10 := Fc_9
      generalize hgx : wr.heap.size = gx at *
      clear hgx
      have ZZ := Lib.hid (rk_mk2  (x1 := x1) (by decide) EX1.out inv_10.drew r_10 o_10 Fd_10 x_10)
      clear inv_10 r_10 o_10 Fd_10 x_10
      refine wp_region_held_drew (S := fun w' => Inv w w' ∧ Blk w' gr 26 (rcA r.b r.c r.d r.p r.q) ∧ Blk w' go 26 (rcA o.b o.c o.d o.p o.q) ∧ Stamps w' w'.heap.size (some ⟨g, 0, none⟩) 3 P ∧ Blk w' gx 24 (sA x2) ∧ ldT 24 (.pointer (some ⟨gx, 0, none⟩)) w' = some (sA x2) ∧ w'.cell? ⟨gx, 0, none⟩ = some (.int .u16 x2.y) ∧ ldT 24 (.pointer (some ⟨g, 8, none⟩)) w' = some (sA x1)) (by kernel_rfl) (ZZ.out) (fun hHeld => ?_)
      refine wpAnyH_take (i := 0) (oi := { dst := some 67, op := Op.move (Operand.tmp 18), type := 30, pos := "law.go:51", after := #[], guard := none }) (v := ?_) rfl (by kernel_rfl) (by kernel_rfl) (by kernel_rfl) (fun _ _ _ h => h) (Or.inl ⟨by rfl, ?_⟩) hHeld ?_
      rotate_left
      · intro w hSw
        try dsimp only at hSw
        go_simp
        try with_reducible rfl
      try simp only [Act.put, List.setIfInBounds_toArray, List.set_cons_zero, List.set_cons_succ]
      refine wpAnyH_take (i := 1) (oi := { dst := some 68, op := Op.binOp BinOp.neq 30 (Operand.tmp 67) (Operand.const (Value.int IntKind.i64 0)) 30, type := 4, pos := "law.go:51", after := #[{ on := 0, ground := Ground.data }], guard := none }) (v := ?_) rfl (by kernel_rfl) (by kernel_rfl) (by kernel_rfl) (fun _ _ _ h => h) (Or.inl ⟨by rfl, ?_⟩) hHeld ?_
      rotate_left
      · intro w hSw
        try dsimp only at hSw
        go_simp
        try with_reducible rfl
      try simp only [Act.put, List.setIfInBounds_toArray, List.set_cons_zero, List.set_cons_succ]
      refine wpAnyH_take (i := 2) (oi := { dst := some 69, op := Op.move (Operand.tmp 68), type := 4, pos := "law.go:51", after := #[{ on := 1, ground := Ground.data }], guard := none }) (v := ?_) rfl (by kernel_rfl) (by kernel_rfl) (by kernel_rfl) (fun _ _ _ h => h) (Or.inl ⟨by rfl, ?_⟩) hHeld ?_
      rotate_left
      · intro w hSw
        try dsimp only at hSw
        go_simp
        try with_reducible rfl
      try simp only [Act.put, List.setIfInBounds_toArray, List.set_cons_zero, List.set_cons_succ]
      refine wpAnyH_take (i := 3) (oi := { dst := some 70, op := Op.move (Operand.tmp 17), type := 2, pos := "law.go:51", after := #[{ on := 2, ground := Ground.guard }], guard := some (2, false) }) (v := ?_) rfl (by kernel_rfl) (by kernel_rfl) (by kernel_rfl) (fun _ _ _ h => h) (Or.inl ⟨by rfl, ?_⟩) hHeld ?_
      rotate_left
      · intro w hSw
        try dsimp only at hSw
        go_simp
        try with_reducible rfl
      try simp only [Act.put, List.setIfInBounds_toArray, List.set_cons_zero, List.set_cons_succ]
      refine wpAnyH_take (i := 4) (oi := { dst := some 71, op := Op.move (Operand.tmp 13), type := 2, pos := "law.go:51", after := #[{ on := 2, ground := Ground.guard }], guard := some (2, false) }) (v := ?_) rfl (by kernel_rfl) (by kernel_rfl) (by kernel_rfl) (fun _ _ _ h => h) (Or.inl ⟨by rfl, ?_⟩) hHeld ?_
      rotate_left
      · intro w hSw
        try dsimp only at hSw
        go_simp
        try with_reducible rfl
      try simp only [Act.put, List.setIfInBounds_toArray, List.set_cons_zero, List.set_cons_succ]
      refine wpAnyH_take (i := 5) (oi := { dst := some 72, op := Op.binOp BinOp.neq 2 (Operand.tmp 70) (Operand.tmp 71) 2, type := 4, pos := "law.go:51", after := #[{ on := 3, ground := Ground.data }, { on := 4, ground := Ground.data }, { on := 2, ground := Ground.guard }], guard := some (2, false) }) (v := ?_) rfl (by kernel_rfl) (by kernel_rfl) (by kernel_rfl) (fun _ _ _ h => h) (Or.inl ⟨by rfl, ?_⟩) hHeld ?_
      rotate_left
      · intro w hSw
        try dsimp only at hSw
        go_simp
        try with_reducible rfl
      try simp only [Act.put, List.setIfInBounds_toArray, List.set_cons_zero, List.set_cons_succ]
      refine wpAnyH_take (i := 6) (oi := { dst := some 73, op := Op.pick (Operand.tmp 69) (Operand.const (Value.bool true)) (Operand.tmp 72), type := 4, pos := "law.go:51", after := #[{ on := 2, ground := Ground.data }, { on := 5, ground := Ground.data }], guard := none }) (v := ?_) rfl (by kernel_rfl) (by kernel_rfl) (by kernel_rfl) (fun _ _ _ h => h) (Or.inl ⟨by rfl, ?_⟩) hHeld ?_
      rotate_left
      · intro w hSw
        try dsimp only at hSw
        go_simp
        try with_reducible rfl
      try simp only [Act.put, List.setIfInBounds_toArray, List.set_cons_zero, List.set_cons_succ]
      refine wpAnyH_take (i := 7) (oi := { dst := some 74, op := Op.move (Operand.tmp 73), type := 4, pos := "law.go:51", after := #[{ on := 6, ground := Ground.data }, { on := 2, ground := Ground.chain }], guard := none }) (v := ?_) rfl (by kernel_rfl) (by kernel_rfl) (by kernel_rfl) (fun _ _ _ h => h) (Or.inl ⟨by rfl, ?_⟩) hHeld ?_
      rotate_left
      · intro w hSw
        try dsimp only at hSw
        go_simp
        try with_reducible rfl
      try simp only [Act.put, List.setIfInBounds_toArray, List.set_cons_zero, List.set_cons_succ]
      refine wpAnyH_take (i := 8) (oi := { dst := some 75, op := Op.load 24 (Operand.tmp 16), type := 24, pos := "law.go:51", after := #[{ on := 7, ground := Ground.guard }], guard := some (7, false) }) (v := ?_) rfl (by kernel_rfl) (by kernel_rfl) (by kernel_rfl) (fun _ _ _ h => h) (Or.inl ⟨by rfl, ?_⟩) hHeld ?_
      rotate_left
      · intro w hSw
        try dsimp only at hSw
        go_simp
        try with_reducible rfl
      try simp only [Act.put, List.setIfInBounds_toArray, List.set_cons_zero, List.set_cons_succ]
      refine wpAnyH_ready (rs := [9]) (by kernel_rfl) (by simp) ?_
      refine AllReadyH.cons (o := { dst := some 76, op := Op.call { callee := Callee.value (Operand.func 74), args := #[Operand.tmp 75], argTypes := #[24] }, type := 30, pos := "law.go:51", after := #[{ on := 8, ground := Ground.data }, { on := 7, ground := Ground.chain }, { on := 7, ground := Ground.guard }], guard := some (7, false) }) rfl (fun K hK => ?_) AllReadyH.nil
      go_simp
      refine (hc2 _ hHeld.1.1).mono ?_; rintro e w' ⟨rfl, hbl⟩
      try go_wp2_with fail
      refine hK.out _ _ (rk_on2  (x1 := x1) (by decide) EX1.out hHeld hbl) (fun hHeld2 => ?_)
      clear hK K hHeld; have hHeld := hHeld2; clear hHeld2
      try simp only [Act.put, List.setIfInBounds_toArray, List.set_cons_zero, List.set_cons_succ]
      refine wpAnyH_take (i := 10) (oi := { dst := some 77, op := Op.binOp BinOp.neq 30 (Operand.tmp 76) (Operand.const (Value.int IntKind.i64 0)) 30, type := 4, pos := "law.go:51", after := #[{ on := 9, ground := Ground.data }, { on := 7, ground := Ground.guard }], guard := some (7, false) }) (v := ?_) rfl (by kernel_rfl) (by kernel_rfl) (by kernel_rfl) (fun _ _ _ h => h) (Or.inl ⟨by rfl, ?_⟩) hHeld ?_
      rotate_left
      · intro w hSw
        try dsimp only at hSw
        go_simp
        try with_reducible rfl
      try simp only [Act.put, List.setIfInBounds_toArray, List.set_cons_zero, List.set_cons_succ]
      refine wpAnyH_take (i := 11) (oi := { dst := some 78, op := Op.pick (Operand.tmp 74) (Operand.const (Value.bool true)) (Operand.tmp 77), type := 4, pos := "law.go:51", after := #[{ on := 7, ground := Ground.data }, { on := 10, ground := Ground.data }], guard := none }) (v := ?_) rfl (by kernel_rfl) (by kernel_rfl) (by kernel_rfl) (fun _ _ _ h => h) (Or.inl ⟨by rfl, ?_⟩) hHeld ?_
      rotate_left
      · intro w hSw
        try dsimp only at hSw
        go_simp
        try with_reducible rfl
      try simp only [Act.put, List.setIfInBounds_toArray, List.set_cons_zero, List.set_cons_succ]
      refine wpAnyH_take (i := 12) (oi := { dst := some 79, op := Op.move (Operand.tmp 78), type := 4, pos := "law.go:51", after := #[{ on := 11, ground := Ground.data }, { on := 9, ground := Ground.chain }], guard := none }) (v := ?_) rfl (by kernel_rfl) (by kernel_rfl) (by kernel_rfl) (fun _ _ _ h => h) (Or.inl ⟨by rfl, ?_⟩) hHeld ?_
      rotate_left
      · intro w hSw
        try dsimp only at hSw
        go_simp
        try with_reducible rfl
      try simp only [Act.put, List.setIfInBounds_toArray, List.set_cons_zero, List.set_cons_succ]
      refine wpAnyH_take (i := 13) (oi := { dst := some 80, op := Op.fieldAddr 24 (Operand.tmp 16) 0, type := 0, pos := "law.go:51", after := #[{ on := 12, ground := Ground.guard }], guard := some (12, false) }) (v := ?_) rfl (by kernel_rfl) (by kernel_rfl) (by kernel_rfl) (fun _ _ _ h => h) (Or.inl ⟨by rfl, ?_⟩) hHeld ?_
      rotate_left
      · intro w hSw
        try dsimp only at hSw
        go_simp
        try with_reducible rfl
      try simp only [Act.put, List.setIfInBounds_toArray, List.set_cons_zero, List.set_cons_succ]
      refine wpAnyH_take (i := 14) (oi := { dst := some 81, op := Op.load 22 (Operand.tmp 80), type := 22, pos := "law.go:51", after := #[{ on := 13, ground := Ground.data }, { on := 12, ground := Ground.guard }], guard := some (12, false) }) (v := ?_) rfl (by kernel_rfl) (by kernel_rfl) (by kernel_rfl) (fun _ _ _ h => h) (Or.inl ⟨by rfl, ?_⟩) hHeld ?_
      rotate_left
      · intro w hSw
        try dsimp only at hSw
        go_simp
        try with_reducible rfl
      try simp only [Act.put, List.setIfInBounds_toArray, List.set_cons_zero, List.set_cons_succ]
      refine wpAnyH_take (i := 15) (oi := { dst := some 82, op := Op.binOp BinOp.neq 22 (Operand.tmp 81) (Operand.const (Value.int IntKind.u16 0)) 22, type := 4, pos := "law.go:51", after := #[{ on := 14, ground := Ground.data }, { on := 12, ground := Ground.guard }], guard := some (12, false) }) (v := ?_) rfl (by kernel_rfl) (by kernel_rfl) (by kernel_rfl) (fun _ _ _ h => h) (Or.inl ⟨by rfl, ?_⟩) hHeld ?_
      rotate_left
      · intro w hSw
        try dsimp only at hSw
        go_simp
        try with_reducible rfl
      try simp only [Act.put, List.setIfInBounds_toArray, List.set_cons_zero, List.set_cons_succ]
      refine wpAnyH_take (i := 16) (oi := { dst := some 83, op := Op.move (Operand.tmp 15), type := 3, pos := "law.go:51", after := #[{ on := 12, ground := Ground.guard }], guard := some (12, false) }) (v := ?_) rfl (by kernel_rfl) (by kernel_rfl) (by kernel_rfl) (fun _ _ _ h => h) (Or.inl ⟨by rfl, ?_⟩) hHeld ?_
      rotate_left
      · intro w hSw
        try dsimp only at hSw
        go_simp
        try with_reducible rfl
      try simp only [Act.put, List.setIfInBounds_toArray, List.set_cons_zero, List.set_cons_succ]
      refine wpAnyH_take (i := 17) (oi := { dst := some 84, op := Op.move (Operand.tmp 11), type := 94, pos := "law.go:51", after := #[{ on := 12, ground := Ground.guard }], guard := some (12, false) }) (v := ?_) rfl (by kernel_rfl) (by kernel_rfl) (by kernel_rfl) (fun _ _ _ h => h) (Or.inl ⟨by rfl, ?_⟩) hHeld ?_
      rotate_left
      · intro w hSw
        try dsimp only at hSw
        go_simp
        try with_reducible rfl
      try simp only [Act.put, List.setIfInBounds_toArray, List.set_cons_zero, List.set_cons_succ]
      refine wpAnyH_take (i := 18) (oi := { dst := some 85, op := Op.call { callee := Callee.builtin Builtin.len, args := #[Operand.tmp 84], argTypes := #[94] }, type := 3, pos := "law.go:51", after := #[{ on := 17, ground := Ground.data }, { on := 12, ground := Ground.guard }], guard := some (12, false) }) (v := ?_) rfl (by kernel_rfl) (by kernel_rfl) (by kernel_rfl) (fun _ _ _ h => h) (Or.inl ⟨by rfl, ?_⟩) hHeld ?_
      rotate_left
      · intro w hSw
        try dsimp only at hSw
        go_simp
        try with_reducible rfl
      try simp only [Act.put, List.setIfInBounds_toArray, List.set_cons_zero, List.set_cons_succ]
      refine wpAnyH_take (i := 19) (oi := { dst := some 86, op := Op.binOp BinOp.sub 3 (Operand.tmp 85) (Operand.const (Value.int IntKind.i64 1)) 3, type := 3, pos := "law.go:51", after := #[{ on := 18, ground := Ground.data }, { on := 12, ground := Ground.guard }], guard := some (12, false) }) (v := ?_) rfl (by kernel_rfl) (by kernel_rfl) (by kernel_rfl) (fun _ _ _ h => h) (Or.inl ⟨by rfl, ?_⟩) hHeld ?_
      rotate_left
      · intro w hSw
        try dsimp only at hSw
        go_simp
        try with_reducible rfl
      try simp only [Act.put, List.setIfInBounds_toArray, List.set_cons_zero, List.set_cons_succ]
      refine wpAnyH_take (i := 20) (oi := { dst := some 87, op := Op.binOp BinOp.eql 3 (Operand.tmp 83) (Operand.tmp 86) 3, type := 4, pos := "law.go:51", after := #[{ on := 16, ground := Ground.data }, { on := 19, ground := Ground.data }, { on := 12, ground := Ground.guard }], guard := some (12, false) }) (v := ?_) rfl (by kernel_rfl) (by kernel_rfl) (by kernel_rfl) (fun _ _ _ h => h) (Or.inl ⟨by rfl, ?_⟩) hHeld ?_
      rotate_left
      · intro w hSw
        try dsimp only at hSw
        go_simp
        try with_reducible rfl
      try simp only [Act.put, List.setIfInBounds_toArray, List.set_cons_zero, List.set_cons_succ]
      refine wpAnyH_take (i := 21) (oi := { dst := some 88, op := Op.binOp BinOp.neq 4 (Operand.tmp 82) (Operand.tmp 87) 4, type := 4, pos := "law.go:51", after := #[{ on := 15, ground := Ground.data }, { on := 20, ground := Ground.data }, { on := 12, ground := Ground.guard }], guard := some (12, false) }) (v := ?_) rfl (by kernel_rfl) (by kernel_rfl) (by kernel_rfl) (fun _ _ _ h => h) (Or.inl ⟨by rfl, ?_⟩) hHeld ?_
      rotate_left
      · intro w hSw
        try dsimp only at hSw
        go_simp
        try with_reducible rfl
      try simp only [Act.put, List.setIfInBounds_toArray, List.set_cons_zero, List.set_cons_succ]
      refine wpAnyH_take (i := 22) (oi := { dst := some 89, op := Op.pick (Operand.tmp 79) (Operand.const (Value.bool true)) (Operand.tmp 88), type := 4, pos := "law.go:51", after := #[{ on := 12, ground := Ground.data }, { on := 21, ground := Ground.data }], guard := none }) (v := ?_) rfl (by kernel_rfl) (by kernel_rfl) (by kernel_rfl) (fun _ _ _ h => h) (Or.inl ⟨by rfl, ?_⟩) hHeld ?_
      rotate_left
      · intro w hSw
        try dsimp only at hSw
        go_simp
        try with_reducible rfl
      try simp only [Act.put, List.setIfInBounds_toArray, List.set_cons_zero, List.set_cons_succ]
      refine wpAnyH_take (i := 23) (oi := { dst := some 90, op := Op.move (Operand.tmp 89), type := 4, pos := "law.go:51", after := #[{ on := 22, ground := Ground.data }, { on := 12, ground := Ground.chain }], guard := none }) (v := ?_) rfl (by kernel_rfl) (by kernel_rfl) (by kernel_rfl) (fun _ _ _ h => h) (Or.inl ⟨by rfl, ?_⟩) hHeld ?_
      rotate_left
      · intro w hSw
        try dsimp only at hSw
        go_simp
        try with_reducible rfl
      try simp only [Act.put, List.setIfInBounds_toArray, List.set_cons_zero, List.set_cons_succ]
      refine wpAnyH_take (i := 24) (oi := { dst := some 91, op := Op.move (Operand.tmp 15), type := 3, pos := "law.go:51", after := #[{ on := 23, ground := Ground.guard }], guard := some (23, false) }) (v := ?_) rfl (by kernel_rfl) (by kernel_rfl) (by kernel_rfl) (fun _ _ _ h => h) (Or.inl ⟨by rfl, ?_⟩) hHeld ?_
      rotate_left
      · intro w hSw
        try dsimp only at hSw
        go_simp
        try with_reducible rfl
      try simp only [Act.put, List.setIfInBounds_toArray, List.set_cons_zero, List.set_cons_succ]
      refine wpAnyH_take (i := 25) (oi := { dst := some 92, op := Op.binOp BinOp.gtr 3 (Operand.tmp 91) (Operand.const (Value.int IntKind.i64 0)) 3, type := 4, pos := "law.go:51", after := #[{ on := 24, ground := Ground.data }, { on := 23, ground := Ground.guard }], guard := some (23, false) }) (v := ?_) rfl (by kernel_rfl) (by kernel_rfl) (by kernel_rfl) (fun _ _ _ h => h) (Or.inl ⟨by rfl, ?_⟩) hHeld ?_
      rotate_left
      · intro w hSw
        try dsimp only at hSw
        go_simp
        try with_reducible rfl
      try simp only [Act.put, List.setIfInBounds_toArray, List.set_cons_zero, List.set_cons_succ]
      refine wpAnyH_take (i := 26) (oi := { dst := some 93, op := Op.move (Operand.tmp 92), type := 4, pos := "law.go:51", after := #[{ on := 25, ground := Ground.data }, { on := 23, ground := Ground.chain }, { on := 23, ground := Ground.guard }], guard := some (23, false) }) (v := ?_) rfl (by kernel_rfl) (by kernel_rfl) (by kernel_rfl) (fun _ _ _ h => h) (Or.inl ⟨by rfl, ?_⟩) hHeld ?_
      rotate_left
      · intro w hSw
        try dsimp only at hSw
        go_simp
        try with_reducible rfl
      try simp only [Act.put, List.setIfInBounds_toArray, List.set_cons_zero, List.set_cons_succ]
      refine wpAnyH_take (i := 27) (oi := { dst := some 94, op := Op.load 24 (Operand.tmp 16), type := 24, pos := "law.go:51", after := #[{ on := 26, ground := Ground.guard }], guard := some (26, true) }) (v := ?_) rfl (by kernel_rfl) (by kernel_rfl) (by kernel_rfl) (fun _ _ _ h => h) (Or.inl ⟨by rfl, ?_⟩) hHeld ?_
      rotate_left
      · intro w hSw
        try dsimp only at hSw
        go_simp
        try with_reducible rfl
      try simp only [Act.put, List.setIfInBounds_toArray, List.set_cons_zero, List.set_cons_succ]
      refine wpAnyH_take (i := 28) (oi := { dst := some 95, op := Op.move (Operand.tmp 11), type := 94, pos := "law.go:51", after := #[{ on := 26, ground := Ground.guard }], guard := some (26, true) }) (v := ?_) rfl (by kernel_rfl) (by kernel_rfl) (by kernel_rfl) (fun _ _ _ h => h) (Or.inl ⟨by rfl, ?_⟩) hHeld ?_
      rotate_left
      · intro w hSw
        try dsimp only at hSw
        go_simp
        try with_reducible rfl
      try simp only [Act.put, List.setIfInBounds_toArray, List.set_cons_zero, List.set_cons_succ]
      refine wpAnyH_take (i := 29) (oi := { dst := some 96, op := Op.move (Operand.tmp 15), type := 3, pos := "law.go:51", after := #[{ on := 26, ground := Ground.guard }], guard := some (26, true) }) (v := ?_) rfl (by kernel_rfl) (by kernel_rfl) (by kernel_rfl) (fun _ _ _ h => h) (Or.inl ⟨by rfl, ?_⟩) hHeld ?_
      rotate_left
      · intro w hSw
        try dsimp only at hSw
        go_simp
        try with_reducible rfl
      try simp only [Act.put, List.setIfInBounds_toArray, List.set_cons_zero, List.set_cons_succ]
      refine wpAnyH_take (i := 30) (oi := { dst := some 97, op := Op.binOp BinOp.sub 3 (Operand.tmp 96) (Operand.const (Value.int IntKind.i64 1)) 3, type := 3, pos := "law.go:51", after := #[{ on := 29, ground := Ground.data }, { on := 26, ground := Ground.guard }], guard := some (26, true) }) (v := ?_) rfl (by kernel_rfl) (by kernel_rfl) (by kernel_rfl) (fun _ _ _ h => h) (Or.inl ⟨by rfl, ?_⟩) hHeld ?_
      rotate_left
      · intro w hSw
        try dsimp only at hSw
        go_simp
        try with_reducible rfl
      try simp only [Act.put, List.setIfInBounds_toArray, List.set_cons_zero, List.set_cons_succ]
      refine wpAnyH_take (i := 31) (oi := { dst := some 98, op := Op.indexAddr 94 (Operand.tmp 95) (Operand.tmp 97), type := 0, pos := "law.go:51", after := #[{ on := 28, ground := Ground.data }, { on := 30, ground := Ground.data }, { on := 26, ground := Ground.guard }], guard := some (26, true) }) (v := ?_) rfl (by kernel_rfl) (by kernel_rfl) (by kernel_rfl) (fun _ _ _ h => h) (Or.inl ⟨by rfl, ?_⟩) hHeld ?_
      rotate_left
      · intro w hSw
        try dsimp only at hSw
        go_simp
        try with_reducible rfl
      try simp only [Act.put, List.setIfInBounds_toArray, List.set_cons_zero, List.set_cons_succ]
      refine wpAnyH_take (i := 32) (oi := { dst := some 99, op := Op.load 24 (Operand.tmp 98), type := 24, pos := "law.go:51", after := #[{ on := 31, ground := Ground.data }, { on := 26, ground := Ground.guard }], guard := some (26, true) }) (v := ?_) rfl (by kernel_rfl) (by kernel_rfl) (by kernel_rfl) (fun _ _ _ h => h) (Or.inl ⟨by rfl, ?_⟩) hHeld ?_
      rotate_left
      · intro w hSw
        try dsimp only at hSw
        go_simp
        try with_reducible rfl
      try simp only [Act.put, List.setIfInBounds_toArray, List.set_cons_zero, List.set_cons_succ]
      refine wpAnyH_take (i := 33) (oi := { dst := some 100, op := Op.binOp BinOp.eql 24 (Operand.tmp 94) (Operand.tmp 99) 24, type := 4, pos := "law.go:51", after := #[{ on := 27, ground := Ground.data }, { on := 32, ground := Ground.data }, { on := 26, ground := Ground.guard }], guard := some (26, true) }) (v := ?_) rfl (by kernel_rfl) (by kernel_rfl) (by kernel_rfl) (fun _ _ _ h => h) (Or.inl ⟨by rfl, ?_⟩) hHeld ?_
      rotate_left
      · intro w hSw
        try dsimp only at hSw
        go_simp
        try with_reducible rfl
      try simp only [Act.put, List.setIfInBounds_toArray, List.set_cons_zero, List.set_cons_succ]
      refine wpAnyH_take (i := 34) (oi := { dst := some 101, op := Op.pick (Operand.tmp 93) (Operand.tmp 100) (Operand.const (Value.bool false)), type := 4, pos := "law.go:51", after := #[{ on := 26, ground := Ground.data }, { on := 33, ground := Ground.data }, { on := 23, ground := Ground.guard }], guard := some (23, false) }) (v := ?_) rfl (by kernel_rfl) (by kernel_rfl) (by kernel_rfl) (fun _ _ _ h => h) (Or.inl ⟨by rfl, ?_⟩) hHeld ?_
      rotate_left
      · intro w hSw
        try dsimp only at hSw
        go_simp
        try with_reducible rfl
      try simp only [Act.put, List.setIfInBounds_toArray, List.set_cons_zero, List.set_cons_succ]
      refine wpAnyH_take (i := 35) (oi := { dst := some 102, op := Op.pick (Operand.tmp 90) (Operand.const (Value.bool true)) (Operand.tmp 101), type := 4, pos := "law.go:51", after := #[{ on := 23, ground := Ground.data }, { on := 34, ground := Ground.data }], guard := none }) (v := ?_) rfl (by kernel_rfl) (by kernel_rfl) (by kernel_rfl) (fun _ _ _ h => h) (Or.inl ⟨by rfl, ?_⟩) hHeld ?_
      rotate_left
      · intro w hSw
        try dsimp only at hSw
        go_simp
        try with_reducible rfl
      try simp only [Act.put, List.setIfInBounds_toArray, List.set_cons_zero, List.set_cons_succ]
      refine wpAnyH_done (by kernel_rfl) ?_ _
      obtain ⟨jv, jr, jo, jF, _⟩ := hHeld; clear ZZ
      go_wp2_with fail
      go_roundw
      case rel => exact ⟨3, by go_num, by omega, jv, jr, jo, jF⟩
      case measure => simp [intOf]
    · have r1 := hF.rowL 2 16 (by omega) rfl EX2.out
      clear hF hl0 hc0 hl1 hc1 hl2 hc2
      go_upto_region 15 with fail
      go_wp2_with (refine wpList_at_g rfl 24 _ rfl wr.heap.size _ (sA x2) rfl _ r1 Tryd.underlying24 rfl (by kernel_rfl) ?_)
      clear r1
      have r_11 := hr
      have o_11 := ho
      have inv_11 := iv
      refine (hlz _ inv_11.1).mono ?_; rintro e w_11 ⟨rfl, hb_11⟩
      have rc_11 := r_11.below hb_11 r_11.lt; clear r_11
      have oc_11 := o_11.below hb_11 o_11.lt; clear o_11
      have invc_11 := inv_11.call hb_11; clear inv_11
      clear hb_11
      have r_12 := rc_11
      have o_12 := oc_11
      have inv_12 := invc_11
      go_upto_region 16 with fail
      go_cut [121] (fun v wx => v = .bool false ∧ wx = w_11)
      case first =>
        by_cases hE : E2 = 0
        · have hZ := HZ.out hE
          have b1 : (E2 == 0) = true := by rw [hE]; rfl
          have b2 : (Z != Y) = false := by rw [hZ]; simp
          clear hE hZ
          go_wp2_with fail
          go_meet
          exact ⟨rfl, rfl⟩
        · have b1 : (E2 == 0) = false := by rw [beq_eq_false_iff_ne]; exact hE
          clear hE
          go_wp2_with fail
          go_meet
          exact ⟨rfl, rfl⟩
      case rest =>
        obtain ⟨rfl, rfl⟩ := hcut
        go_wp2_with (first | refine wpList_row_g rfl 26 _ rfl _ rfl _ _ _ _ r_12 Tryd.underlying26 rfl (by kernel_rfl) ?_)
        have r_13 := r_12
        have o_13 := o_12
        have inv_13 := inv_12
        refine (hsr _ inv_13.1).mono ?_; rintro e w_13 ⟨A1, n1, c1, rfl, en1, L_13, hb_13⟩
        have rc_13 := r_13.below hb_13 r_13.lt; clear r_13
        have oc_13 := o_13.below hb_13 o_13.lt; clear o_13
        have invc_13 := inv_13.call hb_13; clear inv_13
        subst en1
        clear hb_13
        go_wp2_with (first | refine wpList_row_g rfl 26 _ rfl _ rfl _ _ _ _ rc_13 Tryd.underlying26 rfl (by kernel_rfl) ?_ | refine wpList_row_g rfl 26 _ rfl _ rfl _ _ _ _ oc_13 Tryd.underlying26 rfl (by kernel_rfl) ?_)
        have r_14 := rc_13
        have o_14 := oc_13
        have inv_14 := invc_13
        have Ld_14 := L_13
        refine (hrc _ inv_14.1).mono ?_; rintro e w_14 ⟨rfl, hb_14⟩
        have rc_14 := r_14.below hb_14 r_14.lt; clear r_14
        have oc_14 := o_14.below hb_14 o_14.lt; clear o_14
        have Lc_14 := (Ld_14.below hb_14).more hb_14.size; clear Ld_14
        have invc_14 := inv_14.call hb_14; clear inv_14
        clear hb_14
        go_wp2_with (first | refine wpList_store_new rfl 26 _ _ rfl rfl w_14.heap.size (rcA x.b x.c x.d x.p x.q) rfl rfl _ #[.int .i32 0, .int .i32 0, .int .i32 0, .int .u16 0, .int .u16 0, .int .u16 0, .int .u16 0, .int .u16 0, .int .u16 0, .int .u16 0, .int .u16 0, .int .u16 0, .int .u16 0, .int .u16 0, .int .u16 0, .int .u16 0, .int .u16 0, .int .u16 0, .int .u16 0] w_14 rfl rfl rfl (by kernel_rfl) (by kernel_rfl) ?_ | refine wpList_row_g rfl 26 _ rfl _ rfl _ _ _ _ (Wd.Blk.new w_14 26 (rcA x.b x.c x.d x.p x.q)) Tryd.underlying26 rfl (by kernel_rfl) ?_)
        have r_15 := (rc_14.alloc (.cells (rcA x.b x.c x.d x.p x.q) 26))
        have o_15 := (oc_14.alloc (.cells (rcA x.b x.c x.d x.p x.q) 26))
        have x_15 := (Wd.Blk.new w_14 26 (rcA x.b x.c x.d x.p x.q))
        have inv_15 := (invc_14.alloc (.cells (rcA x.b x.c x.d x.p x.q) 26))
        have Ld_15 := ((Lc_14.below (Below.alloc (Below.refl (w_14).heap.size (w_14)) (Nat.le_refl _) (.cells (rcA x.b x.c x.d x.p x.q) 26))).more (Below.alloc (Below.refl (w_14).heap.size (w_14)) (Nat.le_refl _) (.cells (rcA x.b x.c x.d x.p x.q) 26)).size)
        refine (hsx _ inv_15.1).mono ?_; rintro e w_15 ⟨A2, n2, c2, rfl, en2, M_15, hb_15⟩
        have rc_15 := r_15.below hb_15 r_15.lt; clear r_15
        have oc_15 := o_15.below hb_15 o_15.lt; clear o_15
        have xc_15 := x_15.below hb_15 x_15.lt; clear x_15
        have Lc_15 := (Ld_15.below hb_15).more hb_15.size; clear Ld_15
        have invc_15 := inv_15.call hb_15; clear inv_15
        subst en2
        clear hb_15
        have eE : (E == E) = true := by simp
        have eK : (K == K) = true := by simp
        go_upto_region 21 with fail
        have r_16 := rc_15
        have o_16 := oc_15
        have x_16 := xc_15
        have inv_16 := invc_15
        have Ld_16 := Lc_15
        have Md_16 := M_15
        have hx := x_16; have hr := r_16; have iv := inv_16; have hL := Ld_16; have hM := Md_16
        clear r_16 o_16 x_16 inv_16 Ld_16 Md_16 hsr hsx hrc
        have hk : ∀ (v : Value) (w : World), (v = x.V ∨ v = r.V) → Tab w → Calls Tryd.prog 24 #[v] w fun e w' => e = .returned (.int .i64 K) ∧ Below w.heap.size w w' := fun v w h hT => by
          rcases h with rfl | rfl
          · exact hkx w hT
          · exact hkr w hT
        clear hkx hkr
        generalize hgx : w_14.heap.size = gx at *
        clear hgx
        have ZZ := Lib.hid (tk_mk iv.drew hL hM hx hr); clear iv hL hM hx hr
        first | (go_region_held3 (fun w' => Inv w w' ∧ Ft.Spans w' w'.heap.size A1 n2 l ∧ Ft.Spans w' w'.heap.size A2 n2 l ∧ Blk w' gx 26 (rcA x.b x.c x.d x.p x.q) ∧ Blk w' gr 26 (rcA r.b r.c r.d r.p r.q) ∧ ldT 26 (.pointer (some ⟨gx, 0, none⟩)) w' = some (rcA x.b x.c x.d x.p x.q) ∧ ldT 26 (.pointer (some ⟨gr, 0, none⟩)) w' = some (rcA r.b r.c r.d r.p r.q))
          (first | exact ZZ.out | exact tk_on (by assumption) hbl)
          (first | (go_at_call 47; refine (Ft.same_eq _ _ _ _ _ l _ (by go_split_ands; assumption) (by go_split_ands; assumption) (by unfold maxLen; omega)).mono ?_; rintro e w' ⟨rfl, hbl⟩) | (go_at_call 24; refine (hk _ _ (by first | exact Or.inl rfl | exact Or.inr rfl) (show Inv w _ by go_split_ands; assumption).1).mono ?_; rintro e w' ⟨rfl, hbl⟩))) | fail
        rename_i hH
        have hbel := hH.1.2; clear hH ZZ
        go_wp2_with fail
        go_ret
        exact ⟨rfl, hbel⟩
theorem spans_ct (r : Rc) (Y : Int) (B : r.Bd) (w : World) (hT : Tab w) :
    Calls Tryd.prog 75 #[r.V, .int .i64 Y] w fun e w' => ∃ A n c, e = .returned (.tuple #[.slice A n c, .int .i64 (trE r.b r.c r.d r.p r.q Y)]) ∧ n = (if trE r.b r.c r.d r.p r.q Y = 0 then spL r Y else []).length ∧ Ft.Spans w' w'.heap.size A n (if trE r.b r.c r.d r.p r.q Y = 0 then spL r Y else []) ∧ Below w.heap.size w w' := by
  by_cases h : trE r.b r.c r.d r.p r.q Y = 0
  · rw [if_pos h, h]
    have hk : r.ok = true ∧ 1601 ≤ Y ∧ Y ≤ 9999 := by
      unfold trE at h
      cases hk : r.ok with
      | false => rw [if_pos (show rcOk r.b r.c r.d r.p r.q = false from hk)] at h; cases h
      | true =>
        rw [if_neg (by rw [show rcOk r.b r.c r.d r.p r.q = true from hk]; decide)] at h
        by_cases hY : 1601 ≤ Y ∧ Y ≤ 9999
        · exact ⟨rfl, hY⟩
        · rw [if_pos hY] at h; cases h
    exact (spans_yes r Y w hT B hk.1 hk.2.1 hk.2.2).mono fun _ _ ⟨g, n, c, he, hn, _, hr, _, hb⟩ => ⟨_, n, c, he, hn, ⟨hn.symm, hr⟩, hb⟩
  · rw [if_neg h]
    exact (spans_no r Y _ w hT B rfl h).mono fun _ _ ⟨he, hb⟩ => ⟨none, 0, 0, he, rfl, ⟨rfl, Reads.none_⟩, hb⟩
theorem one_any (s : St) (Y Z : Int) (r o : Rc) (w : World) (hT : Tab w) (B : s.Bd) (Br : r.Bd) (Bo : o.Bd) :
    Calls Tryd.prog 14 #[.agg (sA s), .int .i64 Y, .int .i64 Z, r.V, o.V] w fun e w' => e = .returned (.bool true) ∧ Below w.heap.size w w' := by
  have al := @shRec_alike r o Y Br Bo
  obtain ⟨x, ex⟩ : ∃ x, shRec r o Y = x := ⟨_, rfl⟩
  rw [ex] at al
  have eE : trE x.b x.c x.d x.p x.q Y = trE r.b r.c r.d r.p r.q Y := trE_alike al
  have eL : spL x Y = spL r Y := spL_alike al
  have hsr := fun w hT => spans_ct r Y Br w hT
  have hsx := fun w hT => spans_ct x Y al.bd w hT
  rw [eE, eL] at hsx
  have hrc : ∀ w, Tab w → Calls Tryd.prog 71 #[r.V, o.V, .int .i64 Y] w fun e w' => e = .returned x.V ∧ Below w.heap.size w w' := fun w hT => by
    have := rec_any r o Y w hT Br Bo; rwa [ex] at this
  have hkr : ∀ w, Tab w → Calls Tryd.prog 24 #[r.V] w fun e w' => e = .returned (.int .i64 (rcE r.b r.c r.d r.p r.q)) ∧ Below w.heap.size w w' := fun w hT => chk_any r.b r.c r.d r.p r.q w hT Br
  have hkx : ∀ w, Tab w → Calls Tryd.prog 24 #[x.V] w fun e w' => e = .returned (.int .i64 (rcE r.b r.c r.d r.p r.q)) ∧ Below w.heap.size w w' := fun w hT => by
    have := chk_any x.b x.c x.d x.p x.q w hT al.bd
    unfold rcE at this ⊢
    rwa [show rcOk x.b x.c x.d x.p x.q = rcOk r.b r.c r.d r.p r.q from al.ok] at this
  have hnl : (if trE r.b r.c r.d r.p r.q Y = 0 then spL r Y else []).length ≤ 3 := by
    split
    · exact (spL_len r Y).2
    · simp
  generalize (if trE r.b r.c r.d r.p r.q Y = 0 then spL r Y else []) = l at *
  generalize trE r.b r.c r.d r.p r.q Y = E at *
  generalize rcE r.b r.c r.d r.p r.q = K at *
  by_cases he : leS s Y = 0
  · have t := told_of B he
    have hlen := fm_len t
    have hfy := fun w hT => forms_yes s Y w hT B he
    have hls : ∀ w, Tab w → Calls Tryd.prog 73 #[.agg (sA s), .int .i64 Y] w fun e w' => e = .returned (.tuple #[.int .i64 (lcS s Y), .int .i64 0]) ∧ Below w.heap.size w w' := fun w hT => by
      have := local_st s Y w hT B; rwa [he] at this
    have hl : ∀ x, Form x s Y → ∀ w, Tab w → Calls Tryd.prog 73 #[.agg (sA x), .int .i64 Y] w fun e w' => e = .returned (.tuple #[.int .i64 (lcS s Y), .int .i64 0]) ∧ Below w.heap.size w w' := fun x f w hT => by
      have := local_st x Y w hT f.bd; rwa [f.le, f.lc] at this
    have hc : ∀ x, Form x s Y → ∀ w, Tab w → Calls Tryd.prog 74 #[.agg (sA x)] w fun e w' => e = .returned (.int .i64 0) ∧ Below w.heap.size w w' := fun x f w hT => by
      have := Stp.chk_any x.y x.m x.v x.d x.h x.i x.s x.u w hT f.bd
      rwa [show Stp.chkS x.y x.m x.v x.d x.h x.i x.s x.u = 0 from f.ck] at this
    have hat := fun k hk => @fm_at s Y B he k hk
    have h16 := t.e1
    obtain ⟨P, eP⟩ : ∃ P, fmL s Y = P := ⟨_, rfl⟩
    rw [eP] at hlen
    simp only [eP] at hfy hat
    have hf : ∀ N, P.length = N → ∀ w, Tab w → Calls Tryd.prog 63 #[.agg (sA s), .int .i64 Y] w fun e w' => ∃ g c, e = .returned (.tuple #[.slice (some ⟨g, 0, none⟩) N c, .int .i64 0]) ∧ Stamps w' w'.heap.size (some ⟨g, 0, none⟩) N P ∧ Below w.heap.size w w' := fun N hN w hT => by
      refine (hfy w hT).mono ?_
      rintro e w' ⟨g, n, c, rfl, hn, _, hr, _, hb⟩
      rw [hN] at hn
      subst hn
      exact ⟨g, c, rfl, ⟨hN, hr⟩, hb⟩
    have hz : ∀ x : St, x.y = Y → leS x Z = 0 → Z = Y := fun x hy h0 => by
      have := le_year (x := x) (Z := Z) (by rw [hy]; omega) h0; rw [this, hy]
    have hyf : ∀ x : St, x.y = 0 → (x.y != 0) = false := fun x h => by rw [h]; rfl
    have hyt : ∀ x : St, x.y = Y → (x.y != 0) = true := fun x h => by rw [bne_iff_ne, h]; omega
    have h23 : P.length = 2 ∨ P.length = 3 := by omega
    rcases h23 with h2 | h3
    · have a0 := hat 0 (by omega); have a1 := hat 1 (by omega)
      exact one_yes2 s Y Z r o w hT P (lcS s Y) (lcS (P.getD 1 St.nil) Z) (leS (P.getD 1 St.nil) Z) (hf 2 h2) hls (P.getD 0 St.nil) (P.getD 1 St.nil) rfl rfl (hl _ a0.f) (hc _ a0.f) (hl _ a1.f) (hc _ a1.f)
        (fun w hT => local_st _ Z w hT a1.f.bd) (hz _ (a1.yY (by omega))) (hyf _ (a0.y0 (by omega))) (hyt _ (a1.yY (by omega))) (a1.ne 0 rfl) x l l.length hnl E K hsr hsx hrc hkr hkx
    · have a0 := hat 0 (by omega); have a1 := hat 1 (by omega); have a2 := hat 2 (by omega)
      exact one_yes3 s Y Z r o w hT P (lcS s Y) (lcS (P.getD 2 St.nil) Z) (leS (P.getD 2 St.nil) Z) (hf 3 h3) hls (P.getD 0 St.nil) (P.getD 1 St.nil) (P.getD 2 St.nil) rfl rfl rfl (hl _ a0.f) (hc _ a0.f) (hl _ a1.f) (hc _ a1.f) (hl _ a2.f) (hc _ a2.f)
        (fun w hT => local_st _ Z w hT a2.f.bd) (hz _ (a2.yY (by omega))) (hyf _ (a0.y0 (by omega))) (hyf _ (a1.y0 (by omega))) (hyt _ (a2.yY (by omega))) (a1.ne 0 rfl) (a2.ne 1 rfl) x l l.length hnl E K hsr hsx hrc hkr hkx
  · exact one_no s Y Z r o w hT (leS s Y) he (fun w hT => forms_no s Y w hT B he) x l l.length hnl E K hsr hsx hrc hkr hkx
end Go.Proofs.YtefcjccapekjdaaDoor.Sh
