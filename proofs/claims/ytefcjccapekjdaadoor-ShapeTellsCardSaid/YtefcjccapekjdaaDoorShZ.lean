/-
  THE REFERENCE OF SHAPES, walked: the forms of a stamp.
-/
import Derived.Test.YtefcjccapekjdaaDoorShX
namespace Go.Proofs.YtefcjccapekjdaaDoor.Sh
open Go.ChangeShapes Go.WideShapes Go.ChangeAt Go.RowKit
open Go.Proofs.YtefcjccapekjdaaDoor
open Go.Proofs.YtefcjccapekjdaaDoor.Wd
open Go.Proofs.YtefcjccapekjdaaDoor.Rec
open Go.Proofs.YtefcjccapekjdaaDoor.Yr
open Go.Proofs.YtefcjccapekjdaaDoor.Tb
open Go.Proofs.YtefcjccapekjdaaDoor.Civ (Tab Inv)
set_option linter.unusedVariables false
set_option linter.unusedSimpArgs false
/-- a form of a stamp by the number of its week -/
abbrev rfS (s : St) (V : Int) (j : Int) : St := ⟨0, s.m, V, j, s.h, s.i, s.s, s.u⟩
theorem own_below {w w' : World} {base : Nat} {e : TypeId} {size : Nat} {v : Value} {n : Nat} {xs : List Value} (h : w.ownsRow base e size v n xs) (hb : Below w.heap.size w w') : w'.ownsRow base e size v n xs := by
  refine ⟨h.1, ?_⟩
  rcases h.2 with h' | ⟨g, cap, cur, h1, h2, h3, h4⟩
  · exact .inl h'
  · exact .inr ⟨g, cap, cur, h1, h2, by rw [hb.block g (Array.getElem?_eq_some_iff.1 h3).1]; exact h3, h4⟩
def accF (P : Int → Bool) (X : Int → St) : Nat → List St
  | 0 => []
  | j + 1 => accF P X j ++ if P ((j : Int) + 1) = true then [X ((j : Int) + 1)] else []
theorem accF_len (P : Int → Bool) (X : Int → St) (j : Nat) : (accF P X j).length ≤ j := by
  induction j with
  | zero => exact Nat.le_refl _
  | succ j ih => show (accF P X j ++ _).length ≤ _; rw [List.length_append]; split <;> simp <;> omega
set_option maxRecDepth 100000 in
set_option maxHeartbeats 6400000 in
theorem rforms_good (s : St) (Y D N V lc : Int) (w : World) (hT : Tab w) (P : Int → Bool) (cv : Int → Int)
    (hlc : ∀ w, Tab w → Calls Tryd.prog 112 #[.agg (sA s), .int .i64 Y] w fun e w' => e = .returned (.tuple #[.int .i64 lc, .int .i64 0]) ∧ Below w.heap.size w w')
    (hdt : ∀ w, Tab w → Calls Tryd.prog 113 #[.agg (sA s), .int .i64 Y] w fun e w' => e = .returned (.tuple #[.agg #[.int .i64 Y, .int .i64 s.m, .int .i64 D], .int .i64 0]) ∧ Below w.heap.size w w')
    (hdy : ∀ w, Tab w → Calls Tryd.prog 114 #[.agg #[.int .i64 Y, .int .i64 s.m, .int .i64 D]] w fun e w' => e = .returned (.tuple #[.int .i64 N, .int .i64 0]) ∧ Below w.heap.size w w')
    (hwd : ∀ w, Calls Tryd.prog 115 #[.int .i64 N] w fun e w' => e = .returned (.int .i64 V) ∧ w = w')
    (hlj : ∀ j : Int, 1 ≤ j → j ≤ 5 → ∀ w, Tab w → Calls Tryd.prog 112 #[.agg (sA (rfS s V j)), .int .i64 Y] w fun e w' => e = .returned (.tuple #[.int .i64 (cv j), .int .i64 0]) ∧ Below w.heap.size w w')
    (hP : ∀ j : Int, P j = (cv j == lc))
    (y1 : 1601 ≤ Y) (y2 : Y ≤ 9999) (m1 : 1 ≤ s.m) (m2 : s.m ≤ 12) (d1 : 1 ≤ D) (d2 : D ≤ 31) (v1 : 0 ≤ V) (v2 : V ≤ 6) :
    Calls Tryd.prog 64 #[.agg (sA s), .int .i64 Y] w fun e w' => ∃ g n c, e = .returned (.tuple #[.slice (some ⟨g, 0, none⟩) n c, .int .i64 0]) ∧ n = ((accF P (rfS s V) 5 ++ [(⟨Y, s.m, V, D, s.h, s.i, s.s, s.u⟩ : St)])).length ∧ n ≤ c ∧ Reads w' w'.heap.size 8 (some ⟨g, 0, none⟩) n (flatT ((accF P (rfS s V) 5 ++ [(⟨Y, s.m, V, D, s.h, s.i, s.s, s.u⟩ : St)]))) ∧ w.heap.size ≤ g ∧ Below w.heap.size w w' := by
  have i0 := Inv.start hT
  obtain ⟨i0i, hi0, hz0, hz1, hz2⟩ := info_parts st_info
  have a1 : IntKind.u16.wrap (s.m) = s.m := by simp [IntKind.wrap, IntKind.bits, IntKind.signed]; omega
  have a2 : IntKind.u16.wrap (V) = V := by simp [IntKind.wrap, IntKind.bits, IntKind.signed]; omega
  have a3 : IntKind.u16.wrap (Y) = Y := by simp [IntKind.wrap, IntKind.bits, IntKind.signed]; omega
  have a4 : IntKind.u16.wrap (D) = D := by simp [IntKind.wrap, IntKind.bits, IntKind.signed]; omega
  have HP := Lib.hid hP; clear hP
  go_enter Tryd.func64, Tryd.ntmps64
  go_wp2_with (first | refine wpList_row_g rfl 24 _ rfl _ rfl _ _ _ _ (Wd.Blk.new w 24 (sA s)) Tryd.underlying24 rfl (by kernel_rfl) ?_)
  have s_1 := (Wd.Blk.new w 24 (sA s))
  have inv_1 := (i0.alloc (.cells (sA s) 24))
  refine (hlc _ inv_1.1).mono ?_; rintro e w_1 ⟨rfl, hb_1⟩
  have sc_1 := s_1.below hb_1 s_1.lt
  have invc_1 := inv_1.call hb_1
  clear s_1 inv_1 hb_1
  go_wp2_with (first | refine wpList_row_g rfl 24 _ rfl _ rfl _ _ _ _ sc_1 Tryd.underlying24 rfl (by kernel_rfl) ?_)
  have s_2 := sc_1
  have inv_2 := invc_1
  refine (hdt _ inv_2.1).mono ?_; rintro e w_2 ⟨rfl, hb_2⟩
  have sc_2 := s_2.below hb_2 s_2.lt
  have invc_2 := inv_2.call hb_2
  clear s_2 inv_2 hb_2
  have gdl := invc_2.2.size
  go_wp2_with (first | refine wpList_row_g rfl 142 _ rfl _ rfl _ _ _ _ (Wd.Blk.new w_2 142 #[.int .i64 Y, .int .i64 s.m, .int .i64 D]) Tryd.underlying142 rfl (by kernel_rfl) ?_)
  have s_3 := (sc_2.alloc (.cells #[.int .i64 Y, .int .i64 s.m, .int .i64 D] 142))
  have d_3 := (Wd.Blk.new w_2 142 #[.int .i64 Y, .int .i64 s.m, .int .i64 D])
  have inv_3 := (invc_2.alloc (.cells #[.int .i64 Y, .int .i64 s.m, .int .i64 D] 142))
  refine (hdy _ inv_3.1).mono ?_; rintro e w_3 ⟨rfl, hb_3⟩
  have sc_3 := s_3.below hb_3 s_3.lt
  have dc_3 := d_3.below hb_3 d_3.lt
  have invc_3 := inv_3.call hb_3
  clear s_3 d_3 inv_3 hb_3
  have dlt := dc_3.lt
  go_upto_region 7 with (first | refine wpList_row_g rfl 24 _ rfl _ rfl _ _ _ _ sc_3 Tryd.underlying24 rfl (by kernel_rfl) ?_ | refine wpList_store_new rfl 24 _ _ rfl rfl w_3.heap.size (sA s) rfl rfl _ #[.int .u16 0, .int .u16 0, .int .u16 0, .int .u16 0, .int .u16 0, .int .u16 0, .int .u16 0, .int .u16 0] w_3 rfl rfl rfl (by kernel_rfl) (by kernel_rfl) ?_)
  have hf := Wd.Blk.new w_3 24 (sA s); have hd := dc_3.alloc (.cells (sA s) 24); have hv := invc_3.alloc (.cells (sA s) 24)
  clear dc_3 sc_3 invc_3 hlc hdt hdy i0
  generalize w_3.alloc (.cells (sA s) 24) = W at *
  generalize w_3.heap.size = gf at *
  generalize w_2.heap.size = gd at *
  go_cut [38] (fun _ wx => Civ.Inv w wx ∧ Blk wx gd 142 #[.int .i64 Y, .int .i64 s.m, .int .i64 D] ∧ Blk wx gf 24 #[.int .u16 (s.y), .int .u16 s.m, .int .u16 V, .int .u16 (s.d), .int .u16 s.h, .int .u16 s.i, .int .u16 s.s, .int .u16 s.u])
  case first =>
    go_wp2_with fail
    have xf : Blk W.drew gf 24 (sA s) := hf; have xd : Blk W.drew gd 142 #[.int .i64 Y, .int .i64 s.m, .int .i64 D] := hd; have iv := hv.drew
    have k1 := xd.cell 1; have q1 := xf.cell 1; have q2 := xf.cell 2; simp at k1 q1 q2; have f1 := xf.frozen 1; have f2 := xf.frozen 2; have h1 := hf.frozen 1; have h2 := hf.frozen 2
    have zf := (xf.set_ 1 (.int .u16 s.m)).set_ 2 (.int .u16 V)
    simp only [List.setIfInBounds_toArray, List.set_cons_zero, List.set_cons_succ] at zf
    have zd := (xd.far (p := ⟨gf, 1, none⟩) (show gd ≠ gf by omega) (.int .u16 s.m)).far (p := ⟨gf, 2, none⟩) (show gd ≠ gf by omega) (.int .u16 V)
    have zi := inv_set hT (inv_set hT iv (show w.heap.size ≤ gf by omega) 1 (.int .u16 s.m)) (show w.heap.size ≤ gf by omega) 2 (.int .u16 V)
    go_region_with ((go_at_call 115; refine (hwd _).mono ?_; rintro e wn ⟨rfl, rfl⟩))
    all_goals
      go_wp2_with fail
      go_meet
      exact ⟨zi, zd, zf⟩
  case rest =>
    clear hf hd hv hwd
    obtain ⟨hv, hd, hf⟩ := hcut
    have hown := World.ownsRow_nil wc (gf + 1) 24 8
    go_wp2_with fail
    go_loopw [14, 13] (fun i v wr => ∃ (j : Nat) (y0 d0 : Int) (u : Value), i = .int .i64 ((j : Int) + 1) ∧ u = v ∧ j ≤ 5 ∧ Civ.Inv w wr ∧ Blk wr gd 142 #[.int .i64 Y, .int .i64 s.m, .int .i64 D] ∧ Blk wr gf 24 #[.int .u16 (y0), .int .u16 s.m, .int .u16 V, .int .u16 (d0), .int .u16 s.h, .int .u16 s.i, .int .u16 s.s, .int .u16 s.u] ∧ wr.ownsRow (gf + 1) 24 8 u (accF P (rfS s V) j).length (flatT (accF P (rfS s V) j))) (fun i _ _ => 6 - (intOf i).toNat)
    case atStart => exact ⟨0, _, _, _, rfl, rfl, by omega, hv, hd, hf, hown⟩
    case round =>
      clear hv hd hf hown
      obtain ⟨j, y0, d0, u, rfl, rfl, hj, hv, hd, hf, hown⟩ := hrel
      by_cases hlt : j < 5
      · have hlt' : (j : Int) + 1 ≤ 5 := by omega
        have aj : IntKind.u16.wrap ((j : Int) + 1) = (j : Int) + 1 := by simp [IntKind.wrap, IntKind.bits, IntKind.signed]; omega
        have q0 := hf.cell 0; have q3 := hf.cell 3; simp at q0 q3; have f0 := hf.frozen 0; have f3 := hf.frozen 3
        have hf2 := (hf.set_ 0 (.int .u16 0)).set_ 3 (.int .u16 ((j : Int) + 1))
        simp only [List.setIfInBounds_toArray, List.set_cons_zero, List.set_cons_succ] at hf2
        have hd2 := (hd.far (p := ⟨gf, 0, none⟩) (show gd ≠ gf by omega) (.int .u16 0)).far (p := ⟨gf, 3, none⟩) (show gd ≠ gf by omega) (.int .u16 ((j : Int) + 1))
        have hv2 := inv_set hT (inv_set hT hv (show w.heap.size ≤ gf by omega) 0 (.int .u16 0)) (show w.heap.size ≤ gf by omega) 3 (.int .u16 ((j : Int) + 1))
        have ho2 := own_set (own_set hown (Nat.lt_succ_self gf) 0 (.int .u16 0)) (Nat.lt_succ_self gf) 3 (.int .u16 ((j : Int) + 1))
        have HX := HP.out ((j : Int) + 1)
        have HA := Lib.hid (show accF P (rfS s V) (j + 1) = accF P (rfS s V) j ++ (if P ((j : Int) + 1) = true then [rfS s V ((j : Int) + 1)] else []) from rfl)
        have hl := fun w hT => hlj ((j : Int) + 1) (by omega) (by omega) w hT
        obtain ⟨C, eC⟩ : ∃ C, cv ((j : Int) + 1) = C := ⟨_, rfl⟩
        rw [eC] at HX hl; clear eC
        have HL := accF_len P (rfS s V) j
        obtain ⟨n, en⟩ : ∃ n, (accF P (rfS s V) j).length = n := ⟨_, rfl⟩
        rw [en] at ho2 HL
        have EN := Lib.hid en; clear en hown
        obtain ⟨b, eb⟩ : ∃ b, P ((j : Int) + 1) = b := ⟨_, rfl⟩
        rw [eb] at HX
        have EB := Lib.hid eb; clear eb
        go_upto_region 13 with fail
        generalize hWx : (wr.setCell ⟨gf, 0, none⟩ (.int .u16 0)).setCell ⟨gf, 3, none⟩ (.int .u16 ((j : Int) + 1)) = Wx at *
        clear hWx q0 q3 f0 f3 hv hd hf
        go_wp2_with (refine wpList_row_g rfl 24 _ rfl _ rfl _ _ _ _ hf2 Tryd.underlying24 rfl (by kernel_rfl) ?_)
        refine (hl _ hv2.1).mono ?_; rintro e w5 ⟨rfl, hb5⟩
        have f5 := hf2.below hb5 hf2.lt; have d5 := hd2.below hb5 hd2.lt; have v5 := hv2.call hb5
        have o5 := own_below ho2 hb5
        clear hf2 hd2 hv2 ho2 hb5 hl
        cases b with
        | false =>
          have e1 : (C == lc) = false := HX.symm
          clear HX
          go_wp2_with fail
          go_roundw
          case rel => exact ⟨j + 1, _, _, _, by go_num, rfl, by omega, v5, d5, f5, by rw [HA.out, EB.out, if_neg (by decide), List.append_nil, EN.out]; exact o5⟩
          case measure => simp [intOf]; omega
        | true =>
          have e1 : (C == lc) = true := HX.symm
          clear HX
          go_wp2_with (first | refine wpList_row_g rfl 24 _ rfl _ rfl _ _ _ _ f5 Tryd.underlying24 rfl (by kernel_rfl) ?_ | (at_builtin; refine wpList_append_any _ rfl (.tmp 67) (.tmp 69) 94 rfl (gf + 1) 24 i0i _ 8 16 Tryd.underlying94 hi0 hz0 hz1 hz2 rfl (by decide) _ n _ rfl (o5.alloc _) _ _ 1 1 (sA (rfS s V ((j : Int) + 1))).toList rfl (reads_stn _ _ (rfS s V ((j : Int) + 1)) (by first | rfl | simp)) (st_one (rfS s V ((j : Int) + 1))) (by unfold maxLen; omega) (by omega) (by have := f5.lt; rw [sz1 _ _ rfl]; omega) ?_; intro v0 w0 hown0 hg0 _))
          obtain ⟨hv4, hk4⟩ := app_step hT o5 hg0 (show w.heap.size ≤ gf + 1 by omega) v5
          have hd4 := hk4 gd _ _ (by omega) d5; have hf4 := hk4 gf _ _ (Nat.lt_succ_self gf) f5
          go_wp2_with fail
          go_roundw
          case rel => exact ⟨j + 1, _, _, _, by go_num, rfl, by omega, hv4, hd4, hf4, by rw [HA.out, EB.out, if_pos rfl, flatT_app, List.length_append, EN.out]; exact hown0⟩
          case measure => simp [intOf]; omega
      · have hlt' : ¬ (j : Int) + 1 ≤ 5 := by omega
        obtain rfl : j = 5 := by omega
        have HL := accF_len P (rfS s V) 5
        obtain ⟨n, en⟩ : ∃ n, (accF P (rfS s V) 5).length = n := ⟨_, rfl⟩
        obtain ⟨fl, efl⟩ : ∃ fl, flatT (accF P (rfS s V) 5) = fl := ⟨_, rfl⟩
        rw [en] at hown HL; rw [efl] at hown
        have EN := Lib.hid en; have EF := Lib.hid efl; clear en efl
        go_wp2_with fail
        go_cut [71] (fun _ wx => Civ.Inv w wx ∧ wx.ownsRow (gf + 1) 24 8 u n fl ∧ Blk wx gf 24 #[.int .u16 (Y), .int .u16 s.m, .int .u16 V, .int .u16 (D), .int .u16 s.h, .int .u16 s.i, .int .u16 s.s, .int .u16 s.u])
        case first =>
          go_wp2_with fail
          have xf : Blk wr.drew gf 24 #[.int .u16 (y0), .int .u16 s.m, .int .u16 V, .int .u16 (d0), .int .u16 s.h, .int .u16 s.i, .int .u16 s.s, .int .u16 s.u] := hf; have xd : Blk wr.drew gd 142 #[.int .i64 Y, .int .i64 s.m, .int .i64 D] := hd; have iv := hv.drew; have xo : wr.drew.ownsRow _ _ _ _ _ _ := hown
          have k2 := xd.cell 2; have q0 := xf.cell 0; have q3 := xf.cell 3; simp at k2 q0 q3; have f0 := xf.frozen 0; have f3 := xf.frozen 3; have h0 := hf.frozen 0; have h3 := hf.frozen 3
          have zf := (xf.set_ 0 (.int .u16 Y)).set_ 3 (.int .u16 D)
          simp only [List.setIfInBounds_toArray, List.set_cons_zero, List.set_cons_succ] at zf
          have zo := own_set (own_set xo (Nat.lt_succ_self gf) 0 (.int .u16 Y)) (Nat.lt_succ_self gf) 3 (.int .u16 D)
          have zi := inv_set hT (inv_set hT iv (show w.heap.size ≤ gf by omega) 0 (.int .u16 Y)) (show w.heap.size ≤ gf by omega) 3 (.int .u16 D)
          go_region
          all_goals
            go_wp2_with fail
            go_meet
            exact ⟨zi, zo, zf⟩
        case rest =>
          clear hv hd hf hown
          obtain ⟨hv, hown, hf⟩ := hcut
          go_wp2_with (first | refine wpList_row_g rfl 24 _ rfl _ rfl _ _ _ _ hf Tryd.underlying24 rfl (by kernel_rfl) ?_ | (at_builtin; refine wpList_append_any _ rfl (.tmp 78) (.tmp 80) 94 rfl (gf + 1) 24 i0i _ 8 16 Tryd.underlying94 hi0 hz0 hz1 hz2 rfl (by decide) _ n _ rfl (hown.alloc _) _ _ 1 1 (sA (⟨Y, s.m, V, D, s.h, s.i, s.s, s.u⟩ : St)).toList rfl (reads_stn _ _ (⟨Y, s.m, V, D, s.h, s.i, s.s, s.u⟩ : St) (by first | rfl | simp)) (st_one (⟨Y, s.m, V, D, s.h, s.i, s.s, s.u⟩ : St)) (by unfold maxLen; omega) (by omega) (by have := hf.lt; rw [sz1 _ _ rfl]; omega) ?_; intro vz wz hownz hgz _))
          obtain ⟨hv4, hk4⟩ := app_step hT hown hgz (show w.heap.size ≤ gf + 1 by omega) hv
          obtain ⟨g, c, rfl, hc, hg, hrd⟩ := own_out hownz (by omega)
          first | go_ret2 | go_ret
          exact ⟨g, _, c, rfl, by first | rw [EN.out] | (rw [List.length_append, EN.out]; rfl), hc, by rw [flatT_app, EF.out]; exact hrd, by omega, hv4.2⟩
set_option maxRecDepth 100000 in
set_option maxHeartbeats 6400000 in
theorem rforms_no (s : St) (Y : Int) (w : World) (hT : Tab w) (B : s.Bd) (h : leS s Y ≠ 0) :
    Calls Tryd.prog 64 #[.agg (sA s), .int .i64 Y] w fun e w' => e = .returned (.tuple #[.slice none 0 0, .int .i64 (leS s Y)]) ∧ Below w.heap.size w w' := by
  have i0 := Inv.start hT
  have hlc := fun w hT => rlocal_st s Y w hT B
  have e1 : (leS s Y != 0) = true := by rw [bne_iff_ne]; exact h
  generalize leS s Y = E at *
  generalize lcS s Y = C at *
  go_enter Tryd.func64, Tryd.ntmps64
  go_wp2_with (first | refine wpList_row_g rfl 24 _ rfl _ rfl _ _ _ _ (Wd.Blk.new w 24 (sA s)) Tryd.underlying24 rfl (by kernel_rfl) ?_)
  have s_1 := (Wd.Blk.new w 24 (sA s))
  have inv_1 := (i0.alloc (.cells (sA s) 24))
  refine (hlc _ inv_1.1).mono ?_; rintro e w_1 ⟨rfl, hb_1⟩
  have sc_1 := s_1.below hb_1 s_1.lt
  have invc_1 := inv_1.call hb_1
  clear s_1 inv_1 hb_1
  go_wp2_with fail
  first | go_ret | go_ret2
  exact ⟨rfl, invc_1.2⟩
theorem acc_fm {P : Int → Bool} {X : Int → St} {D ml : Int} (hP : ∀ j : Int, 1 ≤ j → j ≤ 5 → (P j = true ↔ (j = (D - 1) / 7 + 1 ∧ j < 5) ∨ (j = 5 ∧ ml - 7 < D))) (d1 : 1 ≤ D) (d2 : D ≤ ml) (l1 : 28 ≤ ml) (l2 : ml ≤ 31) :
    accF P X 5 = (if (D - 1) / 7 + 1 < 5 then [X ((D - 1) / 7 + 1)] else []) ++ (if ml - 7 < D then [X 5] else []) := by
  have hq : (D - 1) / 7 + 1 = 1 ∨ (D - 1) / 7 + 1 = 2 ∨ (D - 1) / 7 + 1 = 3 ∨ (D - 1) / 7 + 1 = 4 ∨ (D - 1) / 7 + 1 = 5 := by omega
  have a1 := hP 1 (by omega) (by omega); have a2 := hP 2 (by omega) (by omega); have a3 := hP 3 (by omega) (by omega); have a4 := hP 4 (by omega) (by omega); have a5 := hP 5 (by omega) (by omega)
  have t : ∀ {b : Bool} {p : Prop}, (b = true ↔ p) → p → b = true := fun h q => h.2 q
  have f : ∀ {b : Bool} {p : Prop}, (b = true ↔ p) → ¬ p → b = false := fun h q => by
    rename_i b p
    cases b with
    | false => rfl
    | true => exact absurd (h.1 rfl) q
  have e : accF P X 5 = ((((([] ++ if P 1 = true then [X 1] else []) ++ if P 2 = true then [X 2] else []) ++ if P 3 = true then [X 3] else []) ++ if P 4 = true then [X 4] else []) ++ if P 5 = true then [X 5] else []) := rfl
  rw [e]
  by_cases h2 : ml - 7 < D
  · rcases hq with q | q | q | q | q
    · omega
    · omega
    · omega
    · rw [f a1 (by omega), f a2 (by omega), f a3 (by omega), t a4 (by omega), t a5 (by omega), q, if_pos h2]; rfl
    · rw [f a1 (by omega), f a2 (by omega), f a3 (by omega), f a4 (by omega), t a5 (by omega), q, if_pos h2]; rfl
  · rcases hq with q | q | q | q | q
    · rw [t a1 (by omega), f a2 (by omega), f a3 (by omega), f a4 (by omega), f a5 (by omega), q, if_neg h2]; rfl
    · rw [f a1 (by omega), t a2 (by omega), f a3 (by omega), f a4 (by omega), f a5 (by omega), q, if_neg h2]; rfl
    · rw [f a1 (by omega), f a2 (by omega), t a3 (by omega), f a4 (by omega), f a5 (by omega), q, if_neg h2]; rfl
    · rw [f a1 (by omega), f a2 (by omega), f a3 (by omega), t a4 (by omega), f a5 (by omega), q, if_neg h2]; rfl
    · rw [f a1 (by omega), f a2 (by omega), f a3 (by omega), f a4 (by omega), f a5 (by omega), q, if_neg h2]; rfl
theorem pick_iff {Y m D j : Int} (h1 : 1 ≤ D) (h2 : D ≤ Cal.mlen Y m) (j1 : 1 ≤ j) (j5 : j ≤ 5) :
    Stp.pickD Y m (Cal.wday (Cal.num Y m D)) j = D ↔ (j = (D - 1) / 7 + 1 ∧ j < 5) ∨ (j = 5 ∧ Cal.mlen Y m - 7 < D) := by
  have hm := Cal.mlen_bd Y m
  have hlin : Cal.num Y m D = Cal.num Y m 1 + (D - 1) := by unfold Cal.num; omega
  have hk : Stp.dayK Y m (Cal.wday (Cal.num Y m D)) j = 1 + (D - 1) % 7 + 7 * (j - 1) := by
    rw [hlin]; unfold Stp.dayK Cal.wday; generalize Cal.num Y m 1 = N; omega
  unfold Stp.pickD
  rw [hk]
  generalize Cal.mlen Y m = ml at *
  split <;> omega
theorem rf_lc {s : St} {Y j : Int} (B : s.Bd) (he : leS s Y = 0) (j1 : 1 ≤ j) (j5 : j ≤ 5) :
    (rfS s (Cal.wday (nS s Y)) j).Bd ∧ leS (rfS s (Cal.wday (nS s Y)) j) Y = 0 ∧ lcS (rfS s (Cal.wday (nS s Y)) j) Y = Cal.num Y s.m (Stp.pickD Y s.m (Cal.wday (nS s Y)) j) * 86400000 + Stp.msT s.h s.i s.s s.u := by
  have t := told_of B he
  obtain ⟨e1, e2, m1, m2, d1, d2, l1, l2, ok, ey, em, h9, i9, s9, u9, _⟩ := t
  have hw : 0 ≤ Cal.wday (nS s Y) ∧ Cal.wday (nS s Y) ≤ 6 := by unfold Cal.wday; omega
  have hday : Stp.dayS 0 s.m j = true := Stp.day_iff.2 (by left; omega)
  obtain ⟨b1, b2, b3, b4, b5, b6, b7, b8⟩ := B
  generalize Cal.wday (nS s Y) = V at *
  have z0 : Stp.zeroS 0 s.m V j s.h s.i s.s s.u = false := by
    cases hz : Stp.zeroS 0 s.m V j s.h s.i s.s s.u with
    | false => rfl
    | true => have := Stp.zero_iff.1 hz; omega
  have n0 : Stp.numS s.m V j s.h s.i s.s s.u = true := Stp.num_iff.2 (by omega)
  have k0 : Stp.okS 0 s.m V j s.h s.i s.s s.u = true := by unfold Stp.okS; rw [n0, hday]; simp
  have t0 : Stp.dtE 0 s.m V j s.h s.i s.s s.u Y = 0 := by
    unfold Stp.dtE Stp.noneS
    rw [k0, z0]
    simp; omega
  refine ⟨⟨by simp only; omega, by simp only; omega, by simp only; omega, by simp only; omega, b5, b6, b7, b8⟩, t0, ?_⟩
  show Stp.lcV 0 s.m V j s.h s.i s.s s.u Y = _
  unfold Stp.lcV Stp.dtY Stp.dtM Stp.dtD
  rw [if_pos t0, if_pos t0, if_pos t0, if_pos t0]
  rfl
theorem rforms_yes (s : St) (Y : Int) (w : World) (hT : Tab w) (B : s.Bd) (h : leS s Y = 0) :
    Calls Tryd.prog 64 #[.agg (sA s), .int .i64 Y] w fun e w' => ∃ g n c, e = .returned (.tuple #[.slice (some ⟨g, 0, none⟩) n c, .int .i64 0]) ∧ n = (fmL s Y).length ∧ n ≤ c ∧ Reads w' w'.heap.size 8 (some ⟨g, 0, none⟩) n (flatT (fmL s Y)) ∧ w.heap.size ≤ g ∧ Below w.heap.size w w' := by
  have t := told_of B h
  have hlc : ∀ w, Tab w → Calls Tryd.prog 112 #[.agg (sA s), .int .i64 Y] w fun e w' => e = .returned (.tuple #[.int .i64 (lcS s Y), .int .i64 0]) ∧ Below w.heap.size w w' := fun w hT => by
    have := rlocal_st s Y w hT B; rwa [h] at this
  have hdt : ∀ w, Tab w → Calls Tryd.prog 113 #[.agg (sA s), .int .i64 Y] w fun e w' => e = .returned (.tuple #[.agg #[.int .i64 Y, .int .i64 s.m, .int .i64 (dS s Y)], .int .i64 0]) ∧ Below w.heap.size w w' := fun w hT => by
    have := Rf.rdate_any s.y s.m s.v s.d s.h s.i s.s s.u Y w B
    rw [t.ey, t.em, show Stp.dtE s.y s.m s.v s.d s.h s.i s.s s.u Y = 0 from h] at this
    exact this
  have hdy : ∀ w, Tab w → Calls Tryd.prog 114 #[.agg #[.int .i64 Y, .int .i64 s.m, .int .i64 (dS s Y)]] w fun e w' => e = .returned (.tuple #[.int .i64 (nS s Y), .int .i64 0]) ∧ Below w.heap.size w w' := fun w hT => by
    have := Civ.rdays_any Y s.m (dS s Y) w
    rw [show Cal.numV Y s.m (dS s Y) = nS s Y by unfold Cal.numV; rw [if_pos t.ok]; rfl, show Cal.chkE Y s.m (dS s Y) = 0 by unfold Cal.chkE; rw [if_pos t.ok]] at this
    exact this
  have hv : 0 ≤ Cal.wday (nS s Y) ∧ Cal.wday (nS s Y) ≤ 6 := by unfold Cal.wday; omega
  have hlj : ∀ j : Int, 1 ≤ j → j ≤ 5 → ∀ w, Tab w → Calls Tryd.prog 112 #[.agg (sA (rfS s (Cal.wday (nS s Y)) j)), .int .i64 Y] w fun e w' => e = .returned (.tuple #[.int .i64 (lcS (rfS s (Cal.wday (nS s Y)) j) Y), .int .i64 0]) ∧ Below w.heap.size w w' := fun j j1 j5 w hT => by
    have r := rf_lc B h j1 j5
    have := rlocal_st (rfS s (Cal.wday (nS s Y)) j) Y w hT r.1
    rwa [r.2.1] at this
  have := rforms_good s Y (dS s Y) (nS s Y) (Cal.wday (nS s Y)) (lcS s Y) w hT (fun j => lcS (rfS s (Cal.wday (nS s Y)) j) Y == lcS s Y) (fun j => lcS (rfS s (Cal.wday (nS s Y)) j) Y) hlc hdt hdy (fun w => Civ.rwd_any _ w) hlj (fun _ => rfl) t.e1 t.e2 t.m1 t.m2 t.d1 (by have := t.d2; have := t.l2; omega) hv.1 hv.2
  rw [acc_fm (D := dS s Y) (ml := Cal.mlen Y s.m) (fun j j1 j5 => ?_) t.d1 t.d2 t.l1 t.l2, List.append_assoc] at this
  · exact this
  · rw [beq_iff_eq, (rf_lc B h j1 j5).2.2, t.lc, ← pick_iff t.d1 t.d2 j1 j5]
    show _ ↔ Stp.pickD Y s.m (Cal.wday (nS s Y)) j = dS s Y
    have e : nS s Y = Cal.num Y s.m 1 + (dS s Y - 1) := by show Cal.num Y s.m (dS s Y) = _; unfold Cal.num; omega
    have e2 : ∀ x, Cal.num Y s.m x = Cal.num Y s.m 1 + (x - 1) := fun x => by unfold Cal.num; omega
    rw [e2 (Stp.pickD Y s.m (Cal.wday (nS s Y)) j)]
    generalize Stp.pickD Y s.m (Cal.wday (nS s Y)) j = q
    rw [e]
    omega
end Go.Proofs.YtefcjccapekjdaaDoor.Sh
