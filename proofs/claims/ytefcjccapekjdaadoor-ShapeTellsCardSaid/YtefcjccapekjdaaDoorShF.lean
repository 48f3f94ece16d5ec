/-
  SHAPES: shape.Forms, walked.
-/
import Derived.Test.YtefcjccapekjdaaDoorShL
import Derived.Test.YtefcjccapekjdaaDoorStpL
namespace Go.Proofs.YtefcjccapekjdaaDoor.Sh
open Go.ChangeShapes Go.WideShapes Go.ChangeAt Go.RowKit
open Go.Proofs.YtefcjccapekjdaaDoor
open Go.Proofs.YtefcjccapekjdaaDoor.Wd
open Go.Proofs.YtefcjccapekjdaaDoor.Rec
open Go.Proofs.YtefcjccapekjdaaDoor.Yr
open Go.Proofs.YtefcjccapekjdaaDoor.Tb
open Go.Proofs.YtefcjccapekjdaaDoor.Civ (Tab Inv)
set_option linter.unusedVariables false
theorem st_info : (Tryd.prog.info? 24).map (fun i => (i.zero, i.size, i.bytes)) = some (some (.agg #[.int .u16 0, .int .u16 0, .int .u16 0, .int .u16 0, .int .u16 0, .int .u16 0, .int .u16 0, .int .u16 0]), 8, 16) := by kernel_rfl
theorem reads_stn (w : World) (t : TypeId) (s : St) {n : Nat} (h : w.heap.size = n) : Reads (w.alloc (.cells (sA s) t)) (n + 1) 8 (some ⟨n, 0, none⟩) 1 (sA s).toList := by
  subst h
  exact ⟨rfl, fun _ => ⟨_, rfl, Nat.lt_succ_self _, fun j x hx => by
    match j, hx with
    | 0, hx => simp at hx; subst hx; simp [Addr.add]
    | 1, hx => simp at hx; subst hx; simp [Addr.add]
    | 2, hx => simp at hx; subst hx; simp [Addr.add]
    | 3, hx => simp at hx; subst hx; simp [Addr.add]
    | 4, hx => simp at hx; subst hx; simp [Addr.add]
    | 5, hx => simp at hx; subst hx; simp [Addr.add]
    | 6, hx => simp at hx; subst hx; simp [Addr.add]
    | 7, hx => simp at hx; subst hx; simp [Addr.add]⟩⟩
theorem st_one (s : St) : ∀ u ∈ (sA s).toList, u.oneCell' = true := by
  intro u hu; simp at hu; rcases hu with rfl | rfl | rfl | rfl | rfl | rfl | rfl | rfl <;> rfl
theorem own_ne {w : World} {base g n size : Nat} {e : TypeId} {v : Value} {xs : List Value} (h : w.ownsRow base e size v n xs) (hg : g < base) : some g ≠ v.ownBlock := fun e' => by
  have := (own_lt3 h g e'.symm).1; omega
theorem own_set {w : World} {base g n size : Nat} {e : TypeId} {v : Value} {xs : List Value} (h : w.ownsRow base e size v n xs) (hg : g < base) (i : Nat) (u : Value) : (w.setCell ⟨g, i, none⟩ u).ownsRow base e size v n xs :=
  ownsRow_setCell_below h hg u
theorem inv_set {w W : World} (hT : Tab w) (h : Civ.Inv w W) {g : Nat} (hg : w.heap.size ≤ g) (i : Nat) (u : Value) : Civ.Inv w (W.setCell ⟨g, i, none⟩ u) := inv_of hT (h.2.setCell (p := ⟨g, i, none⟩) hg u)
theorem app_step {w W w1 : World} (hT : Tab w) {base n : Nat} {o : Obj} {v : Value} {xs : List Value} (hown : W.ownsRow base 24 8 v n xs) (hg1 : (W.alloc o).grownBy w1 v.ownBlock) (hb2 : w.heap.size ≤ base) (hv : Civ.Inv w W) :
    Civ.Inv w w1 ∧ ∀ (g : Nat) (t : TypeId) (cs : Array Value), g < base → Blk W g t cs → Blk w1 g t cs :=
  ⟨inv_of hT (Below.grown (hv.alloc o).2 hg1 (hv.alloc o).2.size (fun k hk => Nat.le_trans hb2 (own_lt3 hown k hk).1)), fun g t cs hg hB => (hB.alloc o).grown hg1 (own_ne hown hg)⟩
/-- the slice that a function made, and what it reads -/
theorem own_out {w : World} {base n : Nat} {e : TypeId} {v : Value} {xs : List Value} (h : w.ownsRow base e 8 v n xs) (hn : 0 < n) : ∃ g c, v = .slice (some ⟨g, 0, none⟩) n c ∧ n ≤ c ∧ base ≤ g ∧ Reads w w.heap.size 8 (some ⟨g, 0, none⟩) n xs := by
  obtain ⟨g, c, rfl, h1, h2⟩ := own_form3 h hn
  exact ⟨g, c, rfl, h2, h1, Reads.of_own h⟩
set_option maxRecDepth 100000 in
set_option maxHeartbeats 6400000 in
theorem forms_a (s : St) (Y D N V ml lc : Int) (w : World) (hT : Tab w)
    (hlc : ∀ w, Tab w → Calls Tryd.prog 73 #[.agg (sA s), .int .i64 Y] w fun e w' => e = .returned (.tuple #[.int .i64 lc, .int .i64 0]) ∧ Below w.heap.size w w')
    (hdt : ∀ w, Tab w → Calls Tryd.prog 108 #[.agg (sA s), .int .i64 Y] w fun e w' => e = .returned (.tuple #[.agg #[.int .i64 Y, .int .i64 s.m, .int .i64 D], .int .i64 0]) ∧ Below w.heap.size w w')
    (hdy : ∀ w, Tab w → Calls Tryd.prog 109 #[.agg #[.int .i64 Y, .int .i64 s.m, .int .i64 D]] w fun e w' => e = .returned (.tuple #[.int .i64 N, .int .i64 0]) ∧ Below w.heap.size w w')
    (hln : ∀ w, Tab w → Calls Tryd.prog 110 #[.int .i64 Y, .int .i64 s.m] w fun e w' => e = .returned (.tuple #[.int .i64 ml, .int .i64 0]) ∧ w = w')
    (hwd : ∀ w, Calls Tryd.prog 111 #[.int .i64 N] w fun e w' => e = .returned (.int .i64 V) ∧ w = w')
    (y1 : 1601 ≤ Y) (y2 : Y ≤ 9999) (m1 : 1 ≤ s.m) (m2 : s.m ≤ 12) (d1 : 1 ≤ D) (d2 : D ≤ ml) (l1 : 28 ≤ ml) (l2 : ml ≤ 31) (v1 : 0 ≤ V) (v2 : V ≤ 6)
    (ha : (D - 1) / 7 + 1 < 5) (hb : ¬ ml - 7 < D) :
    Calls Tryd.prog 63 #[.agg (sA s), .int .i64 Y] w fun e w' => ∃ g n c, e = .returned (.tuple #[.slice (some ⟨g, 0, none⟩) n c, .int .i64 0]) ∧ n = ([⟨0, s.m, V, (D - 1) / 7 + 1, s.h, s.i, s.s, s.u⟩, ⟨Y, s.m, V, D, s.h, s.i, s.s, s.u⟩] : List St).length ∧ n ≤ c ∧ Reads w' w'.heap.size 8 (some ⟨g, 0, none⟩) n (flatT [⟨0, s.m, V, (D - 1) / 7 + 1, s.h, s.i, s.s, s.u⟩, ⟨Y, s.m, V, D, s.h, s.i, s.s, s.u⟩]) ∧ w.heap.size ≤ g ∧ Below w.heap.size w w' := by
  have i0 := Inv.start hT
  obtain ⟨i0i, hi0, hz0, hz1, hz2⟩ := info_parts st_info
  have e0 : (D - 1).tdiv 7 = (D - 1) / 7 := Int.tdiv_eq_ediv_of_nonneg (by omega)
  have a0 : IntKind.u16.wrap ((D - 1) / 7 + 1) = (D - 1) / 7 + 1 := by simp [IntKind.wrap, IntKind.bits, IntKind.signed]; omega
  have a1 : IntKind.u16.wrap (s.m) = s.m := by simp [IntKind.wrap, IntKind.bits, IntKind.signed]; omega
  have a2 : IntKind.u16.wrap (V) = V := by simp [IntKind.wrap, IntKind.bits, IntKind.signed]; omega
  have a3 : IntKind.u16.wrap (Y) = Y := by simp [IntKind.wrap, IntKind.bits, IntKind.signed]; omega
  have a4 : IntKind.u16.wrap (D) = D := by simp [IntKind.wrap, IntKind.bits, IntKind.signed]; omega
  have c1 : 0 ≤ (D - 1) / 7 ∧ (D - 1) / 7 ≤ 4 := by omega
  go_enter Tryd.func63, Tryd.ntmps63
  go_wp2_with (first | refine wpList_row_g rfl 24 _ rfl _ rfl _ _ _ _ (Wd.Blk.new w 24 (sA s)) Tryd.underlying24 rfl (by kernel_rfl) ?_)
  have s_1 := (Wd.Blk.new w 24 (sA s))
  have inv_1 := (i0.alloc (.cells (sA s) 24))
  refine (hlc _ inv_1.1).mono ?_; rintro e w_1 ⟨rfl, hb_1⟩
  have sc_1 := s_1.below hb_1 s_1.lt
  have invc_1 := inv_1.call hb_1
  clear s_1 inv_1 hb_1
  go_wp2_with (first | refine wpList_row_g rfl 24 _ rfl _ rfl _ _ _ _ sc_1 Tryd.underlying24 rfl (by kernel_rfl) ?_)
  have s_2 := sc_1
  have inv_2 := invc_1
  refine (hdt _ inv_2.1).mono ?_; rintro e w_2 ⟨rfl, hb_2⟩
  have sc_2 := s_2.below hb_2 s_2.lt
  have invc_2 := inv_2.call hb_2
  clear s_2 inv_2 hb_2
  have gdl := invc_2.2.size
  go_wp2_with (first | refine wpList_row_g rfl 142 _ rfl _ rfl _ _ _ _ (Wd.Blk.new w_2 142 #[.int .i64 Y, .int .i64 s.m, .int .i64 D]) Tryd.underlying142 rfl (by kernel_rfl) ?_)
  have s_3 := (sc_2.alloc (.cells #[.int .i64 Y, .int .i64 s.m, .int .i64 D] 142))
  have d_3 := (Wd.Blk.new w_2 142 #[.int .i64 Y, .int .i64 s.m, .int .i64 D])
  have inv_3 := (invc_2.alloc (.cells #[.int .i64 Y, .int .i64 s.m, .int .i64 D] 142))
  refine (hdy _ inv_3.1).mono ?_; rintro e w_3 ⟨rfl, hb_3⟩
  have sc_3 := s_3.below hb_3 s_3.lt
  have dc_3 := d_3.below hb_3 d_3.lt
  have invc_3 := inv_3.call hb_3
  clear s_3 d_3 inv_3 hb_3
  have k0 := dc_3.cell 0; have k1 := dc_3.cell 1; simp at k0 k1
  go_wp2_with fail
  refine (hln _ invc_3.1).mono ?_; rintro e wq ⟨rfl, rfl⟩
  have dlt := dc_3.lt
  go_upto_region 14 with (first | refine wpList_row_g rfl 24 _ rfl _ rfl _ _ _ _ sc_3 Tryd.underlying24 rfl (by kernel_rfl) ?_ | refine wpList_store_new rfl 24 _ _ rfl rfl w_3.heap.size (sA s) rfl rfl _ #[.int .u16 0, .int .u16 0, .int .u16 0, .int .u16 0, .int .u16 0, .int .u16 0, .int .u16 0, .int .u16 0] w_3 rfl rfl rfl (by kernel_rfl) (by kernel_rfl) ?_)
  have hf := Wd.Blk.new w_3 24 (sA s); have hd := dc_3.alloc (.cells (sA s) 24); have hv := invc_3.alloc (.cells (sA s) 24)
  clear k0 k1 dc_3 sc_3 invc_3 hlc hdt hdy hln i0
  generalize w_3.alloc (.cells (sA s) 24) = W at *
  generalize w_3.heap.size = gf at *
  generalize w_2.heap.size = gd at *
  go_cut [58] (fun _ wx => Civ.Inv w wx ∧ Blk wx gd 142 #[.int .i64 Y, .int .i64 s.m, .int .i64 D] ∧ Blk wx gf 24 #[.int .u16 (0), .int .u16 s.m, .int .u16 V, .int .u16 (s.d), .int .u16 s.h, .int .u16 s.i, .int .u16 s.s, .int .u16 s.u])
  case first =>
    go_wp2_with fail
    have xf : Blk W.drew gf 24 (sA s) := hf; have xd : Blk W.drew gd 142 #[.int .i64 Y, .int .i64 s.m, .int .i64 D] := hd; have iv := hv.drew
    have k1 := xd.cell 1; have q0 := xf.cell 0; have q1 := xf.cell 1; have q2 := xf.cell 2; simp at k1 q0 q1 q2; have f0 := xf.frozen 0; have f1 := xf.frozen 1; have f2 := xf.frozen 2; have h0 := hf.frozen 0; have h1 := hf.frozen 1; have h2 := hf.frozen 2
    have zf := ((xf.set_ 0 (.int .u16 0)).set_ 1 (.int .u16 s.m)).set_ 2 (.int .u16 V)
    simp only [List.setIfInBounds_toArray, List.set_cons_zero, List.set_cons_succ] at zf
    have zd := ((xd.far (p := ⟨gf, 0, none⟩) (show gd ≠ gf by omega) (.int .u16 0)).far (p := ⟨gf, 1, none⟩) (show gd ≠ gf by omega) (.int .u16 s.m)).far (p := ⟨gf, 2, none⟩) (show gd ≠ gf by omega) (.int .u16 V)
    have zi := inv_set hT (inv_set hT (inv_set hT iv (show w.heap.size ≤ gf by omega) 0 (.int .u16 0)) (show w.heap.size ≤ gf by omega) 1 (.int .u16 s.m)) (show w.heap.size ≤ gf by omega) 2 (.int .u16 V)
    go_region_with ((go_at_call 111; refine (hwd _).mono ?_; rintro e wn ⟨rfl, rfl⟩))
    all_goals
      go_wp2_with fail
      go_meet
      exact ⟨zi, zd, zf⟩
  case rest =>
    clear hf hd hv hwd
    obtain ⟨hv, hd, hf⟩ := hcut
    have hown := World.ownsRow_nil wc (gf + 1) 24 8
    have k2 := hd.cell 2; simp at k2
    have hlt : (D - 1) / 7 + 1 < 5 := by omega
    have f3 := hf.frozen 3; have q3 := hf.cell 3; simp at q3
    have hf3 := hf.set_ 3 (.int .u16 ((D - 1) / 7 + 1))
    simp only [List.setIfInBounds_toArray, List.set_cons_zero, List.set_cons_succ] at hf3
    have hv3 := inv_set hT hv (show w.heap.size ≤ gf by omega) 3 (.int .u16 ((D - 1) / 7 + 1))
    have hd3 := hd.far (p := ⟨gf, 3, none⟩) (show gd ≠ gf by omega) (.int .u16 ((D - 1) / 7 + 1))
    have ho3 := own_set hown (Nat.lt_succ_self gf) 3 (.int .u16 ((D - 1) / 7 + 1))
    go_upto_region 20 with (first | refine wpList_row_g rfl 24 _ rfl _ rfl _ _ _ _ hf3 Tryd.underlying24 rfl (by kernel_rfl) ?_ | (at_builtin; refine wpList_append_any _ rfl (.tmp 72) (.tmp 74) 94 rfl (gf + 1) 24 i0i _ 8 16 Tryd.underlying94 hi0 hz0 hz1 hz2 rfl (by decide) _ 0 _ rfl (ho3.alloc _) _ _ 1 1 (sA (⟨0, s.m, V, (D - 1) / 7 + 1, s.h, s.i, s.s, s.u⟩ : St)).toList rfl (reads_stn _ _ (⟨0, s.m, V, (D - 1) / 7 + 1, s.h, s.i, s.s, s.u⟩ : St) (by first | rfl | simp)) (st_one (⟨0, s.m, V, (D - 1) / 7 + 1, s.h, s.i, s.s, s.u⟩ : St)) (by unfold maxLen; omega) (by omega) (by have := hf3.lt; rw [sz1 _ _ rfl]; omega) ?_; intro v0 w0 hown0 hg0 _))
    obtain ⟨hv4, hk4⟩ := app_step hT ho3 hg0 (show w.heap.size ≤ gf + 1 by omega) hv3
    have hd4 := hk4 gd _ _ (by omega) hd3; have hf4 := hk4 gf _ _ (Nat.lt_succ_self gf) hf3
    clear hd hf hv hown hd3 hf3 hv3 ho3 hk4 hg0 f3 q3 k2
    have hd := hd4; have hf := hf4; have hv := hv4; have hown := hown0; clear hd4 hf4 hv4 hown0
    have k2 := hd.cell 2; simp at k2
    have hlt2 : ¬ ml - 7 < D := by omega
    go_upto_region 23 with fail
    go_cut [91] (fun _ wx => Civ.Inv w wx ∧ wx.ownsRow (gf + 1) 24 8 v0 1 (flatT [(⟨0, s.m, V, (D - 1) / 7 + 1, s.h, s.i, s.s, s.u⟩ : St)]) ∧ Blk wx gf 24 #[.int .u16 (Y), .int .u16 s.m, .int .u16 V, .int .u16 (D), .int .u16 s.h, .int .u16 s.i, .int .u16 s.s, .int .u16 s.u])
    case first =>
      go_wp2_with fail
      have xf : Blk w0.drew gf 24 #[.int .u16 (0), .int .u16 s.m, .int .u16 V, .int .u16 ((D - 1) / 7 + 1), .int .u16 s.h, .int .u16 s.i, .int .u16 s.s, .int .u16 s.u] := hf; have xd : Blk w0.drew gd 142 #[.int .i64 Y, .int .i64 s.m, .int .i64 D] := hd; have iv := hv.drew; have xo : w0.drew.ownsRow _ _ _ _ _ _ := hown
      have k0 := xd.cell 0; have k2 := xd.cell 2; have q0 := xf.cell 0; have q3 := xf.cell 3; simp at k0 k2 q0 q3; have f0 := xf.frozen 0; have f3 := xf.frozen 3; have h0 := hf.frozen 0; have h3 := hf.frozen 3
      have zf := (xf.set_ 0 (.int .u16 Y)).set_ 3 (.int .u16 D)
      simp only [List.setIfInBounds_toArray, List.set_cons_zero, List.set_cons_succ] at zf
      have zo := own_set (own_set xo (Nat.lt_succ_self gf) 0 (.int .u16 Y)) (Nat.lt_succ_self gf) 3 (.int .u16 D)
      have zi := inv_set hT (inv_set hT iv (show w.heap.size ≤ gf by omega) 0 (.int .u16 Y)) (show w.heap.size ≤ gf by omega) 3 (.int .u16 D)
      go_region
      all_goals
        go_wp2_with fail
        go_meet
        exact ⟨zi, zo, zf⟩
    case rest =>
      clear hv hd hf hown k2
      obtain ⟨hv, hown, hf⟩ := hcut
      go_wp2_with (first | refine wpList_row_g rfl 24 _ rfl _ rfl _ _ _ _ hf Tryd.underlying24 rfl (by kernel_rfl) ?_ | (at_builtin; refine wpList_append_any _ rfl (.tmp 94) (.tmp 96) 94 rfl (gf + 1) 24 i0i _ 8 16 Tryd.underlying94 hi0 hz0 hz1 hz2 rfl (by decide) _ 1 _ rfl (hown.alloc _) _ _ 1 1 (sA (⟨Y, s.m, V, D, s.h, s.i, s.s, s.u⟩ : St)).toList rfl (reads_stn _ _ (⟨Y, s.m, V, D, s.h, s.i, s.s, s.u⟩ : St) (by first | rfl | simp)) (st_one (⟨Y, s.m, V, D, s.h, s.i, s.s, s.u⟩ : St)) (by unfold maxLen; omega) (by omega) (by have := hf.lt; rw [sz1 _ _ rfl]; omega) ?_; intro vz wz hownz hgz _))
      obtain ⟨hv4, hk4⟩ := app_step hT hown hgz (show w.heap.size ≤ gf + 1 by omega) hv
      obtain ⟨g, c, rfl, hc, hg, hrd⟩ := own_out hownz (by omega)
      first | go_ret2 | go_ret
      exact ⟨g, _, c, rfl, rfl, hc, hrd, by omega, hv4.2⟩
set_option maxRecDepth 100000 in
set_option maxHeartbeats 6400000 in
theorem forms_ab (s : St) (Y D N V ml lc : Int) (w : World) (hT : Tab w)
    (hlc : ∀ w, Tab w → Calls Tryd.prog 73 #[.agg (sA s), .int .i64 Y] w fun e w' => e = .returned (.tuple #[.int .i64 lc, .int .i64 0]) ∧ Below w.heap.size w w')
    (hdt : ∀ w, Tab w → Calls Tryd.prog 108 #[.agg (sA s), .int .i64 Y] w fun e w' => e = .returned (.tuple #[.agg #[.int .i64 Y, .int .i64 s.m, .int .i64 D], .int .i64 0]) ∧ Below w.heap.size w w')
    (hdy : ∀ w, Tab w → Calls Tryd.prog 109 #[.agg #[.int .i64 Y, .int .i64 s.m, .int .i64 D]] w fun e w' => e = .returned (.tuple #[.int .i64 N, .int .i64 0]) ∧ Below w.heap.size w w')
    (hln : ∀ w, Tab w → Calls Tryd.prog 110 #[.int .i64 Y, .int .i64 s.m] w fun e w' => e = .returned (.tuple #[.int .i64 ml, .int .i64 0]) ∧ w = w')
    (hwd : ∀ w, Calls Tryd.prog 111 #[.int .i64 N] w fun e w' => e = .returned (.int .i64 V) ∧ w = w')
    (y1 : 1601 ≤ Y) (y2 : Y ≤ 9999) (m1 : 1 ≤ s.m) (m2 : s.m ≤ 12) (d1 : 1 ≤ D) (d2 : D ≤ ml) (l1 : 28 ≤ ml) (l2 : ml ≤ 31) (v1 : 0 ≤ V) (v2 : V ≤ 6)
    (ha : (D - 1) / 7 + 1 < 5) (hb : ml - 7 < D) :
    Calls Tryd.prog 63 #[.agg (sA s), .int .i64 Y] w fun e w' => ∃ g n c, e = .returned (.tuple #[.slice (some ⟨g, 0, none⟩) n c, .int .i64 0]) ∧ n = ([⟨0, s.m, V, (D - 1) / 7 + 1, s.h, s.i, s.s, s.u⟩, ⟨0, s.m, V, 5, s.h, s.i, s.s, s.u⟩, ⟨Y, s.m, V, D, s.h, s.i, s.s, s.u⟩] : List St).length ∧ n ≤ c ∧ Reads w' w'.heap.size 8 (some ⟨g, 0, none⟩) n (flatT [⟨0, s.m, V, (D - 1) / 7 + 1, s.h, s.i, s.s, s.u⟩, ⟨0, s.m, V, 5, s.h, s.i, s.s, s.u⟩, ⟨Y, s.m, V, D, s.h, s.i, s.s, s.u⟩]) ∧ w.heap.size ≤ g ∧ Below w.heap.size w w' := by
  have i0 := Inv.start hT
  obtain ⟨i0i, hi0, hz0, hz1, hz2⟩ := info_parts st_info
  have e0 : (D - 1).tdiv 7 = (D - 1) / 7 := Int.tdiv_eq_ediv_of_nonneg (by omega)
  have a0 : IntKind.u16.wrap ((D - 1) / 7 + 1) = (D - 1) / 7 + 1 := by simp [IntKind.wrap, IntKind.bits, IntKind.signed]; omega
  have a1 : IntKind.u16.wrap (s.m) = s.m := by simp [IntKind.wrap, IntKind.bits, IntKind.signed]; omega
  have a2 : IntKind.u16.wrap (V) = V := by simp [IntKind.wrap, IntKind.bits, IntKind.signed]; omega
  have a3 : IntKind.u16.wrap (Y) = Y := by simp [IntKind.wrap, IntKind.bits, IntKind.signed]; omega
  have a4 : IntKind.u16.wrap (D) = D := by simp [IntKind.wrap, IntKind.bits, IntKind.signed]; omega
  have c1 : 0 ≤ (D - 1) / 7 ∧ (D - 1) / 7 ≤ 4 := by omega
  go_enter Tryd.func63, Tryd.ntmps63
  go_wp2_with (first | refine wpList_row_g rfl 24 _ rfl _ rfl _ _ _ _ (Wd.Blk.new w 24 (sA s)) Tryd.underlying24 rfl (by kernel_rfl) ?_)
  have s_1 := (Wd.Blk.new w 24 (sA s))
  have inv_1 := (i0.alloc (.cells (sA s) 24))
  refine (hlc _ inv_1.1).mono ?_; rintro e w_1 ⟨rfl, hb_1⟩
  have sc_1 := s_1.below hb_1 s_1.lt
  have invc_1 := inv_1.call hb_1
  clear s_1 inv_1 hb_1
  go_wp2_with (first | refine wpList_row_g rfl 24 _ rfl _ rfl _ _ _ _ sc_1 Tryd.underlying24 rfl (by kernel_rfl) ?_)
  have s_2 := sc_1
  have inv_2 := invc_1
  refine (hdt _ inv_2.1).mono ?_; rintro e w_2 ⟨rfl, hb_2⟩
  have sc_2 := s_2.below hb_2 s_2.lt
  have invc_2 := inv_2.call hb_2
  clear s_2 inv_2 hb_2
  have gdl := invc_2.2.size
  go_wp2_with (first | refine wpList_row_g rfl 142 _ rfl _ rfl _ _ _ _ (Wd.Blk.new w_2 142 #[.int .i64 Y, .int .i64 s.m, .int .i64 D]) Tryd.underlying142 rfl (by kernel_rfl) ?_)
  have s_3 := (sc_2.alloc (.cells #[.int .i64 Y, .int .i64 s.m, .int .i64 D] 142))
  have d_3 := (Wd.Blk.new w_2 142 #[.int .i64 Y, .int .i64 s.m, .int .i64 D])
  have inv_3 := (invc_2.alloc (.cells #[.int .i64 Y, .int .i64 s.m, .int .i64 D] 142))
  refine (hdy _ inv_3.1).mono ?_; rintro e w_3 ⟨rfl, hb_3⟩
  have sc_3 := s_3.below hb_3 s_3.lt
  have dc_3 := d_3.below hb_3 d_3.lt
  have invc_3 := inv_3.call hb_3
  clear s_3 d_3 inv_3 hb_3
  have k0 := dc_3.cell 0; have k1 := dc_3.cell 1; simp at k0 k1
  go_wp2_with fail
  refine (hln _ invc_3.1).mono ?_; rintro e wq ⟨rfl, rfl⟩
  have dlt := dc_3.lt
  go_upto_region 14 with (first | refine wpList_row_g rfl 24 _ rfl _ rfl _ _ _ _ sc_3 Tryd.underlying24 rfl (by kernel_rfl) ?_ | refine wpList_store_new rfl 24 _ _ rfl rfl w_3.heap.size (sA s) rfl rfl _ #[.int .u16 0, .int .u16 0, .int .u16 0, .int .u16 0, .int .u16 0, .int .u16 0, .int .u16 0, .int .u16 0] w_3 rfl rfl rfl (by kernel_rfl) (by kernel_rfl) ?_)
  have hf := Wd.Blk.new w_3 24 (sA s); have hd := dc_3.alloc (.cells (sA s) 24); have hv := invc_3.alloc (.cells (sA s) 24)
  clear k0 k1 dc_3 sc_3 invc_3 hlc hdt hdy hln i0
  generalize w_3.alloc (.cells (sA s) 24) = W at *
  generalize w_3.heap.size = gf at *
  generalize w_2.heap.size = gd at *
  go_cut [58] (fun _ wx => Civ.Inv w wx ∧ Blk wx gd 142 #[.int .i64 Y, .int .i64 s.m, .int .i64 D] ∧ Blk wx gf 24 #[.int .u16 (0), .int .u16 s.m, .int .u16 V, .int .u16 (s.d), .int .u16 s.h, .int .u16 s.i, .int .u16 s.s, .int .u16 s.u])
  case first =>
    go_wp2_with fail
    have xf : Blk W.drew gf 24 (sA s) := hf; have xd : Blk W.drew gd 142 #[.int .i64 Y, .int .i64 s.m, .int .i64 D] := hd; have iv := hv.drew
    have k1 := xd.cell 1; have q0 := xf.cell 0; have q1 := xf.cell 1; have q2 := xf.cell 2; simp at k1 q0 q1 q2; have f0 := xf.frozen 0; have f1 := xf.frozen 1; have f2 := xf.frozen 2; have h0 := hf.frozen 0; have h1 := hf.frozen 1; have h2 := hf.frozen 2
    have zf := ((xf.set_ 0 (.int .u16 0)).set_ 1 (.int .u16 s.m)).set_ 2 (.int .u16 V)
    simp only [List.setIfInBounds_toArray, List.set_cons_zero, List.set_cons_succ] at zf
    have zd := ((xd.far (p := ⟨gf, 0, none⟩) (show gd ≠ gf by omega) (.int .u16 0)).far (p := ⟨gf, 1, none⟩) (show gd ≠ gf by omega) (.int .u16 s.m)).far (p := ⟨gf, 2, none⟩) (show gd ≠ gf by omega) (.int .u16 V)
    have zi := inv_set hT (inv_set hT (inv_set hT iv (show w.heap.size ≤ gf by omega) 0 (.int .u16 0)) (show w.heap.size ≤ gf by omega) 1 (.int .u16 s.m)) (show w.heap.size ≤ gf by omega) 2 (.int .u16 V)
    go_region_with ((go_at_call 111; refine (hwd _).mono ?_; rintro e wn ⟨rfl, rfl⟩))
    all_goals
      go_wp2_with fail
      go_meet
      exact ⟨zi, zd, zf⟩
  case rest =>
    clear hf hd hv hwd
    obtain ⟨hv, hd, hf⟩ := hcut
    have hown := World.ownsRow_nil wc (gf + 1) 24 8
    have k2 := hd.cell 2; simp at k2
    have hlt : (D - 1) / 7 + 1 < 5 := by omega
    have f3 := hf.frozen 3; have q3 := hf.cell 3; simp at q3
    have hf3 := hf.set_ 3 (.int .u16 ((D - 1) / 7 + 1))
    simp only [List.setIfInBounds_toArray, List.set_cons_zero, List.set_cons_succ] at hf3
    have hv3 := inv_set hT hv (show w.heap.size ≤ gf by omega) 3 (.int .u16 ((D - 1) / 7 + 1))
    have hd3 := hd.far (p := ⟨gf, 3, none⟩) (show gd ≠ gf by omega) (.int .u16 ((D - 1) / 7 + 1))
    have ho3 := own_set hown (Nat.lt_succ_self gf) 3 (.int .u16 ((D - 1) / 7 + 1))
    go_upto_region 20 with (first | refine wpList_row_g rfl 24 _ rfl _ rfl _ _ _ _ hf3 Tryd.underlying24 rfl (by kernel_rfl) ?_ | (at_builtin; refine wpList_append_any _ rfl (.tmp 72) (.tmp 74) 94 rfl (gf + 1) 24 i0i _ 8 16 Tryd.underlying94 hi0 hz0 hz1 hz2 rfl (by decide) _ 0 _ rfl (ho3.alloc _) _ _ 1 1 (sA (⟨0, s.m, V, (D - 1) / 7 + 1, s.h, s.i, s.s, s.u⟩ : St)).toList rfl (reads_stn _ _ (⟨0, s.m, V, (D - 1) / 7 + 1, s.h, s.i, s.s, s.u⟩ : St) (by first | rfl | simp)) (st_one (⟨0, s.m, V, (D - 1) / 7 + 1, s.h, s.i, s.s, s.u⟩ : St)) (by unfold maxLen; omega) (by omega) (by have := hf3.lt; rw [sz1 _ _ rfl]; omega) ?_; intro v0 w0 hown0 hg0 _))
    obtain ⟨hv4, hk4⟩ := app_step hT ho3 hg0 (show w.heap.size ≤ gf + 1 by omega) hv3
    have hd4 := hk4 gd _ _ (by omega) hd3; have hf4 := hk4 gf _ _ (Nat.lt_succ_self gf) hf3
    clear hd hf hv hown hd3 hf3 hv3 ho3 hk4 hg0 f3 q3 k2
    have hd := hd4; have hf := hf4; have hv := hv4; have hown := hown0; clear hd4 hf4 hv4 hown0
    have k2 := hd.cell 2; simp at k2
    have hlt2 : ml - 7 < D := by omega
    have f3 := hf.frozen 3; have q3 := hf.cell 3; simp at q3
    have hf3 := hf.set_ 3 (.int .u16 (5))
    simp only [List.setIfInBounds_toArray, List.set_cons_zero, List.set_cons_succ] at hf3
    have hv3 := inv_set hT hv (show w.heap.size ≤ gf by omega) 3 (.int .u16 (5))
    have hd3 := hd.far (p := ⟨gf, 3, none⟩) (show gd ≠ gf by omega) (.int .u16 (5))
    have ho3 := own_set hown (Nat.lt_succ_self gf) 3 (.int .u16 (5))
    go_upto_region 23 with (first | refine wpList_row_g rfl 24 _ rfl _ rfl _ _ _ _ hf3 Tryd.underlying24 rfl (by kernel_rfl) ?_ | (at_builtin; refine wpList_append_any _ rfl (.tmp 82) (.tmp 84) 94 rfl (gf + 1) 24 i0i _ 8 16 Tryd.underlying94 hi0 hz0 hz1 hz2 rfl (by decide) _ 1 _ rfl (ho3.alloc _) _ _ 1 1 (sA (⟨0, s.m, V, 5, s.h, s.i, s.s, s.u⟩ : St)).toList rfl (reads_stn _ _ (⟨0, s.m, V, 5, s.h, s.i, s.s, s.u⟩ : St) (by first | rfl | simp)) (st_one (⟨0, s.m, V, 5, s.h, s.i, s.s, s.u⟩ : St)) (by unfold maxLen; omega) (by omega) (by have := hf3.lt; rw [sz1 _ _ rfl]; omega) ?_; intro v1 w1 hown1 hg1 _))
    obtain ⟨hv4, hk4⟩ := app_step hT ho3 hg1 (show w.heap.size ≤ gf + 1 by omega) hv3
    have hd4 := hk4 gd _ _ (by omega) hd3; have hf4 := hk4 gf _ _ (Nat.lt_succ_self gf) hf3
    clear hd hf hv hown hd3 hf3 hv3 ho3 hk4 hg1 f3 q3 k2
    have hd := hd4; have hf := hf4; have hv := hv4; have hown := hown1; clear hd4 hf4 hv4 hown1
    have k2 := hd.cell 2; simp at k2
    go_cut [91] (fun _ wx => Civ.Inv w wx ∧ wx.ownsRow (gf + 1) 24 8 v1 2 (flatT [(⟨0, s.m, V, (D - 1) / 7 + 1, s.h, s.i, s.s, s.u⟩ : St), (⟨0, s.m, V, 5, s.h, s.i, s.s, s.u⟩ : St)]) ∧ Blk wx gf 24 #[.int .u16 (Y), .int .u16 s.m, .int .u16 V, .int .u16 (D), .int .u16 s.h, .int .u16 s.i, .int .u16 s.s, .int .u16 s.u])
    case first =>
      go_wp2_with fail
      have xf : Blk w1.drew gf 24 #[.int .u16 (0), .int .u16 s.m, .int .u16 V, .int .u16 (5), .int .u16 s.h, .int .u16 s.i, .int .u16 s.s, .int .u16 s.u] := hf; have xd : Blk w1.drew gd 142 #[.int .i64 Y, .int .i64 s.m, .int .i64 D] := hd; have iv := hv.drew; have xo : w1.drew.ownsRow _ _ _ _ _ _ := hown
      have k0 := xd.cell 0; have k2 := xd.cell 2; have q0 := xf.cell 0; have q3 := xf.cell 3; simp at k0 k2 q0 q3; have f0 := xf.frozen 0; have f3 := xf.frozen 3; have h0 := hf.frozen 0; have h3 := hf.frozen 3
      have zf := (xf.set_ 0 (.int .u16 Y)).set_ 3 (.int .u16 D)
      simp only [List.setIfInBounds_toArray, List.set_cons_zero, List.set_cons_succ] at zf
      have zo := own_set (own_set xo (Nat.lt_succ_self gf) 0 (.int .u16 Y)) (Nat.lt_succ_self gf) 3 (.int .u16 D)
      have zi := inv_set hT (inv_set hT iv (show w.heap.size ≤ gf by omega) 0 (.int .u16 Y)) (show w.heap.size ≤ gf by omega) 3 (.int .u16 D)
      go_region
      all_goals
        go_wp2_with fail
        go_meet
        exact ⟨zi, zo, zf⟩
    case rest =>
      clear hv hd hf hown k2
      obtain ⟨hv, hown, hf⟩ := hcut
      go_wp2_with (first | refine wpList_row_g rfl 24 _ rfl _ rfl _ _ _ _ hf Tryd.underlying24 rfl (by kernel_rfl) ?_ | (at_builtin; refine wpList_append_any _ rfl (.tmp 94) (.tmp 96) 94 rfl (gf + 1) 24 i0i _ 8 16 Tryd.underlying94 hi0 hz0 hz1 hz2 rfl (by decide) _ 2 _ rfl (hown.alloc _) _ _ 1 1 (sA (⟨Y, s.m, V, D, s.h, s.i, s.s, s.u⟩ : St)).toList rfl (reads_stn _ _ (⟨Y, s.m, V, D, s.h, s.i, s.s, s.u⟩ : St) (by first | rfl | simp)) (st_one (⟨Y, s.m, V, D, s.h, s.i, s.s, s.u⟩ : St)) (by unfold maxLen; omega) (by omega) (by have := hf.lt; rw [sz1 _ _ rfl]; omega) ?_; intro vz wz hownz hgz _))
      obtain ⟨hv4, hk4⟩ := app_step hT hown hgz (show w.heap.size ≤ gf + 1 by omega) hv
      obtain ⟨g, c, rfl, hc, hg, hrd⟩ := own_out hownz (by omega)
      first | go_ret2 | go_ret
      exact ⟨g, _, c, rfl, rfl, hc, hrd, by omega, hv4.2⟩
set_option maxRecDepth 100000 in
set_option maxHeartbeats 6400000 in
theorem forms_b (s : St) (Y D N V ml lc : Int) (w : World) (hT : Tab w)
    (hlc : ∀ w, Tab w → Calls Tryd.prog 73 #[.agg (sA s), .int .i64 Y] w fun e w' => e = .returned (.tuple #[.int .i64 lc, .int .i64 0]) ∧ Below w.heap.size w w')
    (hdt : ∀ w, Tab w → Calls Tryd.prog 108 #[.agg (sA s), .int .i64 Y] w fun e w' => e = .returned (.tuple #[.agg #[.int .i64 Y, .int .i64 s.m, .int .i64 D], .int .i64 0]) ∧ Below w.heap.size w w')
    (hdy : ∀ w, Tab w → Calls Tryd.prog 109 #[.agg #[.int .i64 Y, .int .i64 s.m, .int .i64 D]] w fun e w' => e = .returned (.tuple #[.int .i64 N, .int .i64 0]) ∧ Below w.heap.size w w')
    (hln : ∀ w, Tab w → Calls Tryd.prog 110 #[.int .i64 Y, .int .i64 s.m] w fun e w' => e = .returned (.tuple #[.int .i64 ml, .int .i64 0]) ∧ w = w')
    (hwd : ∀ w, Calls Tryd.prog 111 #[.int .i64 N] w fun e w' => e = .returned (.int .i64 V) ∧ w = w')
    (y1 : 1601 ≤ Y) (y2 : Y ≤ 9999) (m1 : 1 ≤ s.m) (m2 : s.m ≤ 12) (d1 : 1 ≤ D) (d2 : D ≤ ml) (l1 : 28 ≤ ml) (l2 : ml ≤ 31) (v1 : 0 ≤ V) (v2 : V ≤ 6)
    (ha : ¬ (D - 1) / 7 + 1 < 5) (hb : ml - 7 < D) :
    Calls Tryd.prog 63 #[.agg (sA s), .int .i64 Y] w fun e w' => ∃ g n c, e = .returned (.tuple #[.slice (some ⟨g, 0, none⟩) n c, .int .i64 0]) ∧ n = ([⟨0, s.m, V, 5, s.h, s.i, s.s, s.u⟩, ⟨Y, s.m, V, D, s.h, s.i, s.s, s.u⟩] : List St).length ∧ n ≤ c ∧ Reads w' w'.heap.size 8 (some ⟨g, 0, none⟩) n (flatT [⟨0, s.m, V, 5, s.h, s.i, s.s, s.u⟩, ⟨Y, s.m, V, D, s.h, s.i, s.s, s.u⟩]) ∧ w.heap.size ≤ g ∧ Below w.heap.size w w' := by
  have i0 := Inv.start hT
  obtain ⟨i0i, hi0, hz0, hz1, hz2⟩ := info_parts st_info
  have e0 : (D - 1).tdiv 7 = (D - 1) / 7 := Int.tdiv_eq_ediv_of_nonneg (by omega)
  have a0 : IntKind.u16.wrap ((D - 1) / 7 + 1) = (D - 1) / 7 + 1 := by simp [IntKind.wrap, IntKind.bits, IntKind.signed]; omega
  have a1 : IntKind.u16.wrap (s.m) = s.m := by simp [IntKind.wrap, IntKind.bits, IntKind.signed]; omega
  have a2 : IntKind.u16.wrap (V) = V := by simp [IntKind.wrap, IntKind.bits, IntKind.signed]; omega
  have a3 : IntKind.u16.wrap (Y) = Y := by simp [IntKind.wrap, IntKind.bits, IntKind.signed]; omega
  have a4 : IntKind.u16.wrap (D) = D := by simp [IntKind.wrap, IntKind.bits, IntKind.signed]; omega
  have c1 : 0 ≤ (D - 1) / 7 ∧ (D - 1) / 7 ≤ 4 := by omega
  go_enter Tryd.func63, Tryd.ntmps63
  go_wp2_with (first | refine wpList_row_g rfl 24 _ rfl _ rfl _ _ _ _ (Wd.Blk.new w 24 (sA s)) Tryd.underlying24 rfl (by kernel_rfl) ?_)
  have s_1 := (Wd.Blk.new w 24 (sA s))
  have inv_1 := (i0.alloc (.cells (sA s) 24))
  refine (hlc _ inv_1.1).mono ?_; rintro e w_1 ⟨rfl, hb_1⟩
  have sc_1 := s_1.below hb_1 s_1.lt
  have invc_1 := inv_1.call hb_1
  clear s_1 inv_1 hb_1
  go_wp2_with (first | refine wpList_row_g rfl 24 _ rfl _ rfl _ _ _ _ sc_1 Tryd.underlying24 rfl (by kernel_rfl) ?_)
  have s_2 := sc_1
  have inv_2 := invc_1
  refine (hdt _ inv_2.1).mono ?_; rintro e w_2 ⟨rfl, hb_2⟩
  have sc_2 := s_2.below hb_2 s_2.lt
  have invc_2 := inv_2.call hb_2
  clear s_2 inv_2 hb_2
  have gdl := invc_2.2.size
  go_wp2_with (first | refine wpList_row_g rfl 142 _ rfl _ rfl _ _ _ _ (Wd.Blk.new w_2 142 #[.int .i64 Y, .int .i64 s.m, .int .i64 D]) Tryd.underlying142 rfl (by kernel_rfl) ?_)
  have s_3 := (sc_2.alloc (.cells #[.int .i64 Y, .int .i64 s.m, .int .i64 D] 142))
  have d_3 := (Wd.Blk.new w_2 142 #[.int .i64 Y, .int .i64 s.m, .int .i64 D])
  have inv_3 := (invc_2.alloc (.cells #[.int .i64 Y, .int .i64 s.m, .int .i64 D] 142))
  refine (hdy _ inv_3.1).mono ?_; rintro e w_3 ⟨rfl, hb_3⟩
  have sc_3 := s_3.below hb_3 s_3.lt
  have dc_3 := d_3.below hb_3 d_3.lt
  have invc_3 := inv_3.call hb_3
  clear s_3 d_3 inv_3 hb_3
  have k0 := dc_3.cell 0; have k1 := dc_3.cell 1; simp at k0 k1
  go_wp2_with fail
  refine (hln _ invc_3.1).mono ?_; rintro e wq ⟨rfl, rfl⟩
  have dlt := dc_3.lt
  go_upto_region 14 with (first | refine wpList_row_g rfl 24 _ rfl _ rfl _ _ _ _ sc_3 Tryd.underlying24 rfl (by kernel_rfl) ?_ | refine wpList_store_new rfl 24 _ _ rfl rfl w_3.heap.size (sA s) rfl rfl _ #[.int .u16 0, .int .u16 0, .int .u16 0, .int .u16 0, .int .u16 0, .int .u16 0, .int .u16 0, .int .u16 0] w_3 rfl rfl rfl (by kernel_rfl) (by kernel_rfl) ?_)
  have hf := Wd.Blk.new w_3 24 (sA s); have hd := dc_3.alloc (.cells (sA s) 24); have hv := invc_3.alloc (.cells (sA s) 24)
  clear k0 k1 dc_3 sc_3 invc_3 hlc hdt hdy hln i0
  generalize w_3.alloc (.cells (sA s) 24) = W at *
  generalize w_3.heap.size = gf at *
  generalize w_2.heap.size = gd at *
  go_cut [58] (fun _ wx => Civ.Inv w wx ∧ Blk wx gd 142 #[.int .i64 Y, .int .i64 s.m, .int .i64 D] ∧ Blk wx gf 24 #[.int .u16 (0), .int .u16 s.m, .int .u16 V, .int .u16 (s.d), .int .u16 s.h, .int .u16 s.i, .int .u16 s.s, .int .u16 s.u])
  case first =>
    go_wp2_with fail
    have xf : Blk W.drew gf 24 (sA s) := hf; have xd : Blk W.drew gd 142 #[.int .i64 Y, .int .i64 s.m, .int .i64 D] := hd; have iv := hv.drew
    have k1 := xd.cell 1; have q0 := xf.cell 0; have q1 := xf.cell 1; have q2 := xf.cell 2; simp at k1 q0 q1 q2; have f0 := xf.frozen 0; have f1 := xf.frozen 1; have f2 := xf.frozen 2; have h0 := hf.frozen 0; have h1 := hf.frozen 1; have h2 := hf.frozen 2
    have zf := ((xf.set_ 0 (.int .u16 0)).set_ 1 (.int .u16 s.m)).set_ 2 (.int .u16 V)
    simp only [List.setIfInBounds_toArray, List.set_cons_zero, List.set_cons_succ] at zf
    have zd := ((xd.far (p := ⟨gf, 0, none⟩) (show gd ≠ gf by omega) (.int .u16 0)).far (p := ⟨gf, 1, none⟩) (show gd ≠ gf by omega) (.int .u16 s.m)).far (p := ⟨gf, 2, none⟩) (show gd ≠ gf by omega) (.int .u16 V)
    have zi := inv_set hT (inv_set hT (inv_set hT iv (show w.heap.size ≤ gf by omega) 0 (.int .u16 0)) (show w.heap.size ≤ gf by omega) 1 (.int .u16 s.m)) (show w.heap.size ≤ gf by omega) 2 (.int .u16 V)
    go_region_with ((go_at_call 111; refine (hwd _).mono ?_; rintro e wn ⟨rfl, rfl⟩))
    all_goals
      go_wp2_with fail
      go_meet
      exact ⟨zi, zd, zf⟩
  case rest =>
    clear hf hd hv hwd
    obtain ⟨hv, hd, hf⟩ := hcut
    have hown := World.ownsRow_nil wc (gf + 1) 24 8
    have k2 := hd.cell 2; simp at k2
    have hlt : ¬ (D - 1) / 7 + 1 < 5 := by omega
    have hlt2 : ml - 7 < D := by omega
    have f3 := hf.frozen 3; have q3 := hf.cell 3; simp at q3
    have hf3 := hf.set_ 3 (.int .u16 (5))
    simp only [List.setIfInBounds_toArray, List.set_cons_zero, List.set_cons_succ] at hf3
    have hv3 := inv_set hT hv (show w.heap.size ≤ gf by omega) 3 (.int .u16 (5))
    have hd3 := hd.far (p := ⟨gf, 3, none⟩) (show gd ≠ gf by omega) (.int .u16 (5))
    have ho3 := own_set hown (Nat.lt_succ_self gf) 3 (.int .u16 (5))
    go_upto_region 23 with (first | refine wpList_row_g rfl 24 _ rfl _ rfl _ _ _ _ hf3 Tryd.underlying24 rfl (by kernel_rfl) ?_ | (at_builtin; refine wpList_append_any _ rfl (.tmp 82) (.tmp 84) 94 rfl (gf + 1) 24 i0i _ 8 16 Tryd.underlying94 hi0 hz0 hz1 hz2 rfl (by decide) _ 0 _ rfl (ho3.alloc _) _ _ 1 1 (sA (⟨0, s.m, V, 5, s.h, s.i, s.s, s.u⟩ : St)).toList rfl (reads_stn _ _ (⟨0, s.m, V, 5, s.h, s.i, s.s, s.u⟩ : St) (by first | rfl | simp)) (st_one (⟨0, s.m, V, 5, s.h, s.i, s.s, s.u⟩ : St)) (by unfold maxLen; omega) (by omega) (by have := hf3.lt; rw [sz1 _ _ rfl]; omega) ?_; intro v0 w0 hown0 hg0 _))
    obtain ⟨hv4, hk4⟩ := app_step hT ho3 hg0 (show w.heap.size ≤ gf + 1 by omega) hv3
    have hd4 := hk4 gd _ _ (by omega) hd3; have hf4 := hk4 gf _ _ (Nat.lt_succ_self gf) hf3
    clear hd hf hv hown hd3 hf3 hv3 ho3 hk4 hg0 f3 q3 k2
    have hd := hd4; have hf := hf4; have hv := hv4; have hown := hown0; clear hd4 hf4 hv4 hown0
    have k2 := hd.cell 2; simp at k2
    go_cut [91] (fun _ wx => Civ.Inv w wx ∧ wx.ownsRow (gf + 1) 24 8 v0 1 (flatT [(⟨0, s.m, V, 5, s.h, s.i, s.s, s.u⟩ : St)]) ∧ Blk wx gf 24 #[.int .u16 (Y), .int .u16 s.m, .int .u16 V, .int .u16 (D), .int .u16 s.h, .int .u16 s.i, .int .u16 s.s, .int .u16 s.u])
    case first =>
      go_wp2_with fail
      have xf : Blk w0.drew gf 24 #[.int .u16 (0), .int .u16 s.m, .int .u16 V, .int .u16 (5), .int .u16 s.h, .int .u16 s.i, .int .u16 s.s, .int .u16 s.u] := hf; have xd : Blk w0.drew gd 142 #[.int .i64 Y, .int .i64 s.m, .int .i64 D] := hd; have iv := hv.drew; have xo : w0.drew.ownsRow _ _ _ _ _ _ := hown
      have k0 := xd.cell 0; have k2 := xd.cell 2; have q0 := xf.cell 0; have q3 := xf.cell 3; simp at k0 k2 q0 q3; have f0 := xf.frozen 0; have f3 := xf.frozen 3; have h0 := hf.frozen 0; have h3 := hf.frozen 3
      have zf := (xf.set_ 0 (.int .u16 Y)).set_ 3 (.int .u16 D)
      simp only [List.setIfInBounds_toArray, List.set_cons_zero, List.set_cons_succ] at zf
      have zo := own_set (own_set xo (Nat.lt_succ_self gf) 0 (.int .u16 Y)) (Nat.lt_succ_self gf) 3 (.int .u16 D)
      have zi := inv_set hT (inv_set hT iv (show w.heap.size ≤ gf by omega) 0 (.int .u16 Y)) (show w.heap.size ≤ gf by omega) 3 (.int .u16 D)
      go_region
      all_goals
        go_wp2_with fail
        go_meet
        exact ⟨zi, zo, zf⟩
    case rest =>
      clear hv hd hf hown k2
      obtain ⟨hv, hown, hf⟩ := hcut
      go_wp2_with (first | refine wpList_row_g rfl 24 _ rfl _ rfl _ _ _ _ hf Tryd.underlying24 rfl (by kernel_rfl) ?_ | (at_builtin; refine wpList_append_any _ rfl (.tmp 94) (.tmp 96) 94 rfl (gf + 1) 24 i0i _ 8 16 Tryd.underlying94 hi0 hz0 hz1 hz2 rfl (by decide) _ 1 _ rfl (hown.alloc _) _ _ 1 1 (sA (⟨Y, s.m, V, D, s.h, s.i, s.s, s.u⟩ : St)).toList rfl (reads_stn _ _ (⟨Y, s.m, V, D, s.h, s.i, s.s, s.u⟩ : St) (by first | rfl | simp)) (st_one (⟨Y, s.m, V, D, s.h, s.i, s.s, s.u⟩ : St)) (by unfold maxLen; omega) (by omega) (by have := hf.lt; rw [sz1 _ _ rfl]; omega) ?_; intro vz wz hownz hgz _))
      obtain ⟨hv4, hk4⟩ := app_step hT hown hgz (show w.heap.size ≤ gf + 1 by omega) hv
      obtain ⟨g, c, rfl, hc, hg, hrd⟩ := own_out hownz (by omega)
      first | go_ret2 | go_ret
      exact ⟨g, _, c, rfl, rfl, hc, hrd, by omega, hv4.2⟩
set_option maxRecDepth 100000 in
set_option maxHeartbeats 6400000 in
theorem forms_no (s : St) (Y : Int) (w : World) (hT : Tab w) (B : s.Bd) (h : leS s Y ≠ 0) :
    Calls Tryd.prog 63 #[.agg (sA s), .int .i64 Y] w fun e w' => e = .returned (.tuple #[.slice none 0 0, .int .i64 (leS s Y)]) ∧ Below w.heap.size w w' := by
  have i0 := Inv.start hT
  have hlc := fun w hT => local_st s Y w hT B
  have e1 : (leS s Y != 0) = true := by rw [bne_iff_ne]; exact h
  generalize leS s Y = E at *
  generalize lcS s Y = C at *
  go_enter Tryd.func63, Tryd.ntmps63
  go_wp2_with (first | refine wpList_row_g rfl 24 _ rfl _ rfl _ _ _ _ (Wd.Blk.new w 24 (sA s)) Tryd.underlying24 rfl (by kernel_rfl) ?_)
  have s_1 := (Wd.Blk.new w 24 (sA s))
  have inv_1 := (i0.alloc (.cells (sA s) 24))
  refine (hlc _ inv_1.1).mono ?_; rintro e w_1 ⟨rfl, hb_1⟩
  have sc_1 := s_1.below hb_1 s_1.lt
  have invc_1 := inv_1.call hb_1
  clear s_1 inv_1 hb_1
  go_wp2_with fail
  first | go_ret | go_ret2
  exact ⟨rfl, invc_1.2⟩
theorem forms_yes (s : St) (Y : Int) (w : World) (hT : Tab w) (B : s.Bd) (h : leS s Y = 0) :
    Calls Tryd.prog 63 #[.agg (sA s), .int .i64 Y] w fun e w' => ∃ g n c, e = .returned (.tuple #[.slice (some ⟨g, 0, none⟩) n c, .int .i64 0]) ∧ n = (fmL s Y).length ∧ n ≤ c ∧ Reads w' w'.heap.size 8 (some ⟨g, 0, none⟩) n (flatT (fmL s Y)) ∧ w.heap.size ≤ g ∧ Below w.heap.size w w' := by
  have t := told_of B h
  have hlc : ∀ w, Tab w → Calls Tryd.prog 73 #[.agg (sA s), .int .i64 Y] w fun e w' => e = .returned (.tuple #[.int .i64 (lcS s Y), .int .i64 0]) ∧ Below w.heap.size w w' := fun w hT => by
    have := local_st s Y w hT B; rwa [h] at this
  have hdt : ∀ w, Tab w → Calls Tryd.prog 108 #[.agg (sA s), .int .i64 Y] w fun e w' => e = .returned (.tuple #[.agg #[.int .i64 Y, .int .i64 s.m, .int .i64 (dS s Y)], .int .i64 0]) ∧ Below w.heap.size w w' := fun w hT => by
    have := Stp.date_any s.y s.m s.v s.d s.h s.i s.s s.u Y w hT B
    rw [t.ey, t.em, show Stp.dtE s.y s.m s.v s.d s.h s.i s.s s.u Y = 0 from h] at this
    exact this
  have hdy : ∀ w, Tab w → Calls Tryd.prog 109 #[.agg #[.int .i64 Y, .int .i64 s.m, .int .i64 (dS s Y)]] w fun e w' => e = .returned (.tuple #[.int .i64 (nS s Y), .int .i64 0]) ∧ Below w.heap.size w w' := fun w hT => by
    have := Civ.days_any Y s.m (dS s Y) w hT
    rw [show Cal.numV Y s.m (dS s Y) = nS s Y by unfold Cal.numV; rw [if_pos t.ok]; rfl, show Cal.chkE Y s.m (dS s Y) = 0 by unfold Cal.chkE; rw [if_pos t.ok]] at this
    exact this
  have hym : Cal.okYM Y s.m = true := (Cal.okYM_iff _ _).2 ⟨by have := t.e1; omega, t.e2, t.m1, t.m2⟩
  have hln : ∀ w, Tab w → Calls Tryd.prog 110 #[.int .i64 Y, .int .i64 s.m] w fun e w' => e = .returned (.tuple #[.int .i64 (Cal.mlen Y s.m), .int .i64 0]) ∧ w = w' := fun w hT => by
    have := Civ.len_any Y s.m w hT
    rw [show Cal.lenV Y s.m = Cal.mlen Y s.m by unfold Cal.lenV; rw [if_pos hym], show Cal.lenE Y s.m = 0 by unfold Cal.lenE; rw [if_pos hym]] at this
    exact this
  have hwd := fun w => Civ.wd_any (nS s Y) w
  have hv : 0 ≤ Cal.wday (nS s Y) ∧ Cal.wday (nS s Y) ≤ 6 := by unfold Cal.wday; omega
  by_cases ha : (dS s Y - 1) / 7 + 1 < 5
  · by_cases hb : Cal.mlen Y s.m - 7 < dS s Y
    · have := forms_ab s Y (dS s Y) (nS s Y) (Cal.wday (nS s Y)) (Cal.mlen Y s.m) (lcS s Y) w hT hlc hdt hdy hln hwd t.e1 t.e2 t.m1 t.m2 t.d1 t.d2 t.l1 t.l2 hv.1 hv.2 ha hb
      rw [show fmL s Y = _ by unfold fmL; rw [if_pos ha, if_pos hb]]
      exact this
    · have := forms_a s Y (dS s Y) (nS s Y) (Cal.wday (nS s Y)) (Cal.mlen Y s.m) (lcS s Y) w hT hlc hdt hdy hln hwd t.e1 t.e2 t.m1 t.m2 t.d1 t.d2 t.l1 t.l2 hv.1 hv.2 ha hb
      rw [show fmL s Y = _ by unfold fmL; rw [if_pos ha, if_neg hb]]
      exact this
  · have hb : Cal.mlen Y s.m - 7 < dS s Y := by have := t.l2; omega
    have := forms_b s Y (dS s Y) (nS s Y) (Cal.wday (nS s Y)) (Cal.mlen Y s.m) (lcS s Y) w hT hlc hdt hdy hln hwd t.e1 t.e2 t.m1 t.m2 t.d1 t.d2 t.l1 t.l2 hv.1 hv.2 ha hb
    rw [show fmL s Y = _ by unfold fmL; rw [if_neg ha, if_pos hb]]
    exact this
end Go.Proofs.YtefcjccapekjdaaDoor.Sh
