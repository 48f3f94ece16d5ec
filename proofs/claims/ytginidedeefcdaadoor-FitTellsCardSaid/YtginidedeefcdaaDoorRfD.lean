/-
  FIT, THE REFERENCE, walked: a year's ends; whether spans are a year's.
-/
import Derived.Test.YtginidedeefcdaaDoorRfC
namespace Go.Proofs.YtginidedeefcdaaDoor.Ft
open Go.ChangeShapes Go.WideShapes Go.ChangeAt Go.RowKit
open Go.Proofs.YtginidedeefcdaaDoor
open Go.Proofs.YtginidedeefcdaaDoor.Wd
open Go.Proofs.YtginidedeefcdaaDoor.Rec
open Go.Proofs.YtginidedeefcdaaDoor.Yr
open Go.Proofs.YtginidedeefcdaaDoor.Tb
open Go.Proofs.YtginidedeefcdaaDoor.Clk (yrV yrE)
open Go.Proofs.YtginidedeefcdaaDoor.Civ (Tab Inv dateE)
set_option linter.unusedVariables false
theorem rstamp_any (c : Int) (w : World) (hT : Tab w) (h1 : -9223372036854775808 ≤ c) (h2 : c ≤ 9223372036854775807) :
    Calls Tryd.prog 16 #[.int .i64 c] w fun e w' => e = .returned (.tuple #[.agg (sA (fsV c)), .int .i64 (fsE c)]) ∧ Below w.heap.size w w' := by
  cases h : fsOk c with
  | false => exact rstamp_no c w h1 h2 h
  | true =>
    obtain ⟨v1, v2⟩ := fs_yes h
    rw [v1, v2]
    have hq := of_decide_eq_true h
    obtain ⟨q1, q2⟩ := hq
    have hs := fun w => Rf.rsplit_any c w h1 h2
    have ho := fun w => Civ.rof_any (c / 86400) w
    have hE : Cal.ofE (c / 86400) = 0 := q1
    have hV : yrV c = Cal.ofYV (c / 86400) := rfl
    have hr := yr_bd q1
    have hn : -719162 ≤ c / 86400 ∧ c / 86400 ≤ 2932896 := by omega
    have hokN := (Cal.okN_iff (c / 86400)).2 hn
    have hok := Cal.day_ok _ hn.1 hn.2
    have e1 : Cal.ofYV (c / 86400) = Cal.dayY (c / 86400) := by unfold Cal.ofYV; rw [if_pos hokN]
    have e2 : Cal.ofMV (c / 86400) = Cal.dayM (c / 86400) := by unfold Cal.ofMV; rw [if_pos hokN]
    have e3 : Cal.ofDV (c / 86400) = Cal.dayD (c / 86400) := by unfold Cal.ofDV; rw [if_pos hokN]
    rw [← e1, ← e2, ← e3] at hok
    have hd := (Cal.okD_iff _ _ _).1 hok
    have hl := fun w => Civ.rlen_any (Cal.ofYV (c / 86400)) (Cal.ofMV (c / 86400)) w
    obtain ⟨l1, l2⟩ := Civ.len_of ((Cal.okYM_iff _ _).2 ⟨hd.1, hd.2.1, hd.2.2.1, hd.2.2.2.1⟩)
    simp only [l1, l2] at hl
    simp only [hE] at ho
    have hml := Cal.mlen_bd (Cal.ofYV (c / 86400)) (Cal.ofMV (c / 86400))
    have hwd := Civ.wday_bd (c / 86400)
    by_cases hw : Cal.mlen (Cal.ofYV (c / 86400)) (Cal.ofMV (c / 86400)) - 7 < Cal.ofDV (c / 86400)
    · have e : sA (fsS c) = #[.int .u16 0, .int .u16 (Cal.ofMV (c / 86400)), .int .u16 (Cal.wday (c / 86400)), .int .u16 5, .int .u16 (c % 86400 / 3600), .int .u16 (c % 86400 / 60 % 60), .int .u16 (c % 86400 % 60), .int .u16 0] := by
        unfold fsS; rw [if_pos hw]
      rw [e]
      exact rstamp_five c _ _ _ _ _ _ _ w hT hs ho hl (fun w => Civ.rwd_any _ w) (by omega) hd.2.2.1 hd.2.2.2.1 hd.2.2.2.2.1 hd.2.2.2.2.2 hml.1 hml.2 hwd.1 hwd.2 (by omega) (by omega) hw
    · have e : sA (fsS c) = #[.int .u16 0, .int .u16 (Cal.ofMV (c / 86400)), .int .u16 (Cal.wday (c / 86400)), .int .u16 ((Cal.ofDV (c / 86400) - 1) / 7 + 1), .int .u16 (c % 86400 / 3600), .int .u16 (c % 86400 / 60 % 60), .int .u16 (c % 86400 % 60), .int .u16 0] := by
        unfold fsS; rw [if_neg hw]
      rw [e]
      exact rstamp_less c _ _ _ _ _ _ _ w hT hs ho hl (fun w => Civ.rwd_any _ w) (by omega) hd.2.2.1 hd.2.2.2.1 hd.2.2.2.2.1 hd.2.2.2.2.2 hml.1 hml.2 hwd.1 hwd.2 (by omega) (by omega) hw
set_option maxRecDepth 20000 in
set_option maxHeartbeats 6400000 in
theorem rends_of (Y F T : Int) (p q : St) (w : World) (hT : Tab w)
    (hb1 : ∀ w, Calls Tryd.prog 47 #[.int .i64 Y] w fun e w' => e = .returned (.tuple #[.int .i64 F, .int .i64 0]) ∧ w = w')
    (hb2 : ∀ w, Calls Tryd.prog 47 #[.int .i64 (Y + 1)] w fun e w' => e = .returned (.tuple #[.int .i64 T, .int .i64 0]) ∧ w = w')
    (z1 : ¬ Y < 1601) (z2 : ¬ 9999 < Y)
    (hp : ∀ w, Tab w → Calls Tryd.prog 16 #[.int .i64 F] w fun e w' => e = .returned (.tuple #[.agg (sA p), .int .i64 0]) ∧ Below w.heap.size w w')
    (hq : ∀ w, Tab w → Calls Tryd.prog 16 #[.int .i64 (T - 1)] w fun e w' => e = .returned (.tuple #[.agg (sA q), .int .i64 0]) ∧ Below w.heap.size w w')
    (t1 : -62135596800 ≤ T) (t2 : T ≤ 253402300800) :
    Calls Tryd.prog 18 #[.int .i64 Y] w fun e w' => e = .returned (.tuple #[.agg (sA p), .agg (sA { q with u := 999 }), .int .i64 0]) ∧ Below w.heap.size w w' := by
  have i0 := Inv.start hT
  have i1 := (i0.alloc (.cells z8 26)).alloc (.cells z8 26)
  have x1 := (Blk.new w 26 z8).alloc (.cells z8 26)
  have y1 : Blk ((w.alloc (.cells z8 26)).alloc (.cells z8 26)) (w.heap.size + 1) 26 z8 := blk_at _ _ _ (sz1 w _ rfl)
  unfold z8 at i1 x1 y1
  unfold sA at hp hq ⊢
  go_enter Tryd.func18, Tryd.ntmps18
  go_wp2_with fail
  refine (hb1 _).mono ?_; rintro e wq ⟨rfl, rfl⟩
  go_wp2_with fail
  refine (hb2 _).mono ?_; rintro e wq ⟨rfl, rfl⟩
  clear hb1 hb2
  go_wp2_with fail
  refine (hp _ i1.1).mono ?_; rintro e w1 ⟨rfl, hb1⟩
  have i2 := i1.call hb1
  have x2 := x1.below hb1 x1.lt
  have y2 := y1.below hb1 y1.lt
  have zg1 : w.heap.size + 1 < w1.heap.size := y2.lt
  have i3 := i2.alloc (.cells #[.int .u16 p.y, .int .u16 p.m, .int .u16 p.v, .int .u16 p.d, .int .u16 p.h, .int .u16 p.i, .int .u16 p.s, .int .u16 p.u] 26)
  have x3 := x2.alloc (.cells #[.int .u16 p.y, .int .u16 p.m, .int .u16 p.v, .int .u16 p.d, .int .u16 p.h, .int .u16 p.i, .int .u16 p.s, .int .u16 p.u] 26)
  have y3 := y2.alloc (.cells #[.int .u16 p.y, .int .u16 p.m, .int .u16 p.v, .int .u16 p.d, .int .u16 p.h, .int .u16 p.i, .int .u16 p.s, .int .u16 p.u] 26)
  have a3 := Blk.new w1 26 #[.int .u16 p.y, .int .u16 p.m, .int .u16 p.v, .int .u16 p.d, .int .u16 p.h, .int .u16 p.i, .int .u16 p.s, .int .u16 p.u]
  clear i0 i1 x1 y1 hb1 i2 x2 y2
  go_wp2_with (first | (go_at_call 16; refine (hq _ i3.1).mono ?_; rintro e w2 ⟨rfl, hb2⟩; refine Hid.out ?_) | refine wpList_store_new rfl 26 _ _ rfl rfl w1.heap.size #[.int .u16 p.y, .int .u16 p.m, .int .u16 p.v, .int .u16 p.d, .int .u16 p.h, .int .u16 p.i, .int .u16 p.s, .int .u16 p.u] rfl rfl _ #[.int .u16 0, .int .u16 0, .int .u16 0, .int .u16 0, .int .u16 0, .int .u16 0, .int .u16 0, .int .u16 0] w1 rfl rfl rfl (by kernel_rfl) (by kernel_rfl) ?_)
  refine Lib.hid ?_
  have i4 := i3.call hb2
  have x4 := x3.below hb2 x3.lt
  have y4 := y3.below hb2 y3.lt
  have a4 := a3.below hb2 a3.lt
  have zg2 : w1.heap.size < w2.heap.size := a4.lt
  have i6 := i4.alloc (.cells #[.int .u16 q.y, .int .u16 q.m, .int .u16 q.v, .int .u16 q.d, .int .u16 q.h, .int .u16 q.i, .int .u16 q.s, .int .u16 999] 26)
  have x6 := x4.alloc (.cells #[.int .u16 q.y, .int .u16 q.m, .int .u16 q.v, .int .u16 q.d, .int .u16 q.h, .int .u16 q.i, .int .u16 q.s, .int .u16 999] 26)
  have y6 := y4.alloc (.cells #[.int .u16 q.y, .int .u16 q.m, .int .u16 q.v, .int .u16 q.d, .int .u16 q.h, .int .u16 q.i, .int .u16 q.s, .int .u16 999] 26)
  have a6 := a4.alloc (.cells #[.int .u16 q.y, .int .u16 q.m, .int .u16 q.v, .int .u16 q.d, .int .u16 q.h, .int .u16 q.i, .int .u16 q.s, .int .u16 999] 26)
  have b6 := Blk.new w2 26 #[.int .u16 q.y, .int .u16 q.m, .int .u16 q.v, .int .u16 q.d, .int .u16 q.h, .int .u16 q.i, .int .u16 q.s, .int .u16 999]
  clear i3 x3 y3 a3 hb2 i4 x4 y4 a4
  go_upto_region 8 with (refine wpList_store_new rfl 26 _ _ rfl rfl w2.heap.size #[.int .u16 q.y, .int .u16 q.m, .int .u16 q.v, .int .u16 q.d, .int .u16 q.h, .int .u16 q.i, .int .u16 q.s, .int .u16 q.u] rfl rfl _ #[.int .u16 0, .int .u16 0, .int .u16 0, .int .u16 0, .int .u16 0, .int .u16 0, .int .u16 0, .int .u16 0] w2 rfl rfl rfl (by kernel_rfl) (by kernel_rfl) ?_)
  generalize w2.alloc (.cells #[.int .u16 q.y, .int .u16 q.m, .int .u16 q.v, .int .u16 q.d, .int .u16 q.h, .int .u16 q.i, .int .u16 q.s, .int .u16 999] 26) = W6 at *
  generalize w2.heap.size = g2 at *
  generalize w1.heap.size = g1 at *
  have a60 : W6.cell? ⟨g1, 0, none⟩ = some (.int .u16 p.y) := a6.cell 0
  have a61 : W6.cell? ⟨g1, 1, none⟩ = some (.int .u16 p.m) := a6.cell 1
  have a62 : W6.cell? ⟨g1, 2, none⟩ = some (.int .u16 p.v) := a6.cell 2
  have a63 : W6.cell? ⟨g1, 3, none⟩ = some (.int .u16 p.d) := a6.cell 3
  have a64 : W6.cell? ⟨g1, 4, none⟩ = some (.int .u16 p.h) := a6.cell 4
  have a65 : W6.cell? ⟨g1, 5, none⟩ = some (.int .u16 p.i) := a6.cell 5
  have a66 : W6.cell? ⟨g1, 6, none⟩ = some (.int .u16 p.s) := a6.cell 6
  have a67 : W6.cell? ⟨g1, 7, none⟩ = some (.int .u16 p.u) := a6.cell 7
  have b60 : W6.cell? ⟨g2, 0, none⟩ = some (.int .u16 q.y) := b6.cell 0
  have b61 : W6.cell? ⟨g2, 1, none⟩ = some (.int .u16 q.m) := b6.cell 1
  have b62 : W6.cell? ⟨g2, 2, none⟩ = some (.int .u16 q.v) := b6.cell 2
  have b63 : W6.cell? ⟨g2, 3, none⟩ = some (.int .u16 q.d) := b6.cell 3
  have b64 : W6.cell? ⟨g2, 4, none⟩ = some (.int .u16 q.h) := b6.cell 4
  have b65 : W6.cell? ⟨g2, 5, none⟩ = some (.int .u16 q.i) := b6.cell 5
  have b66 : W6.cell? ⟨g2, 6, none⟩ = some (.int .u16 q.s) := b6.cell 6
  have b67 : W6.cell? ⟨g2, 7, none⟩ = some (.int .u16 999) := b6.cell 7
  have fx0 := x6.frozen 0
  have cx0 := x6.cell 0
  have fy0 := y6.frozen 0
  have cy0 := y6.cell 0
  have fx1 := x6.frozen 1
  have cx1 := x6.cell 1
  have fy1 := y6.frozen 1
  have cy1 := y6.cell 1
  have fx2 := x6.frozen 2
  have cx2 := x6.cell 2
  have fy2 := y6.frozen 2
  have cy2 := y6.cell 2
  have fx3 := x6.frozen 3
  have cx3 := x6.cell 3
  have fy3 := y6.frozen 3
  have cy3 := y6.cell 3
  have fx4 := x6.frozen 4
  have cx4 := x6.cell 4
  have fy4 := y6.frozen 4
  have cy4 := y6.cell 4
  have fx5 := x6.frozen 5
  have cx5 := x6.cell 5
  have fy5 := y6.frozen 5
  have cy5 := y6.cell 5
  have fx6 := x6.frozen 6
  have cx6 := x6.cell 6
  have fy6 := y6.frozen 6
  have cy6 := y6.cell 6
  have fx7 := x6.frozen 7
  have cx7 := x6.cell 7
  have fy7 := y6.frozen 7
  have cy7 := y6.cell 7
  simp at cx0 cy0 cx1 cy1 cx2 cy2 cx3 cy3 cx4 cy4 cx5 cy5 cx6 cy6 cx7 cy7
  have hBel := Below.drew ((((((((((((((((i6.2.setCell (p := ⟨w.heap.size, 0, none⟩) (Nat.le_refl _) (.int .u16 p.y)).setCell (p := ⟨w.heap.size, 1, none⟩) (Nat.le_refl _) (.int .u16 p.m)).setCell (p := ⟨w.heap.size, 2, none⟩) (Nat.le_refl _) (.int .u16 p.v)).setCell (p := ⟨w.heap.size, 3, none⟩) (Nat.le_refl _) (.int .u16 p.d)).setCell (p := ⟨w.heap.size, 4, none⟩) (Nat.le_refl _) (.int .u16 p.h)).setCell (p := ⟨w.heap.size, 5, none⟩) (Nat.le_refl _) (.int .u16 p.i)).setCell (p := ⟨w.heap.size, 6, none⟩) (Nat.le_refl _) (.int .u16 p.s)).setCell (p := ⟨w.heap.size, 7, none⟩) (Nat.le_refl _) (.int .u16 p.u)).setCell (p := ⟨w.heap.size + 1, 0, none⟩) (Nat.le_succ _) (.int .u16 q.y)).setCell (p := ⟨w.heap.size + 1, 1, none⟩) (Nat.le_succ _) (.int .u16 q.m)).setCell (p := ⟨w.heap.size + 1, 2, none⟩) (Nat.le_succ _) (.int .u16 q.v)).setCell (p := ⟨w.heap.size + 1, 3, none⟩) (Nat.le_succ _) (.int .u16 q.d)).setCell (p := ⟨w.heap.size + 1, 4, none⟩) (Nat.le_succ _) (.int .u16 q.h)).setCell (p := ⟨w.heap.size + 1, 5, none⟩) (Nat.le_succ _) (.int .u16 q.i)).setCell (p := ⟨w.heap.size + 1, 6, none⟩) (Nat.le_succ _) (.int .u16 q.s)).setCell (p := ⟨w.heap.size + 1, 7, none⟩) (Nat.le_succ _) (.int .u16 999))
  have hX := Blk.drew ((((((((((((((((x6.set_ 0 (.int .u16 p.y)).set_ 1 (.int .u16 p.m)).set_ 2 (.int .u16 p.v)).set_ 3 (.int .u16 p.d)).set_ 4 (.int .u16 p.h)).set_ 5 (.int .u16 p.i)).set_ 6 (.int .u16 p.s)).set_ 7 (.int .u16 p.u)).far (p := ⟨w.heap.size + 1, 0, none⟩) (by show w.heap.size ≠ w.heap.size + 1; omega) (.int .u16 q.y)).far (p := ⟨w.heap.size + 1, 1, none⟩) (by show w.heap.size ≠ w.heap.size + 1; omega) (.int .u16 q.m)).far (p := ⟨w.heap.size + 1, 2, none⟩) (by show w.heap.size ≠ w.heap.size + 1; omega) (.int .u16 q.v)).far (p := ⟨w.heap.size + 1, 3, none⟩) (by show w.heap.size ≠ w.heap.size + 1; omega) (.int .u16 q.d)).far (p := ⟨w.heap.size + 1, 4, none⟩) (by show w.heap.size ≠ w.heap.size + 1; omega) (.int .u16 q.h)).far (p := ⟨w.heap.size + 1, 5, none⟩) (by show w.heap.size ≠ w.heap.size + 1; omega) (.int .u16 q.i)).far (p := ⟨w.heap.size + 1, 6, none⟩) (by show w.heap.size ≠ w.heap.size + 1; omega) (.int .u16 q.s)).far (p := ⟨w.heap.size + 1, 7, none⟩) (by show w.heap.size ≠ w.heap.size + 1; omega) (.int .u16 999))
  have hY := Blk.drew ((((((((((((((((y6.far (p := ⟨w.heap.size, 0, none⟩) (by show w.heap.size + 1 ≠ w.heap.size; omega) (.int .u16 p.y)).far (p := ⟨w.heap.size, 1, none⟩) (by show w.heap.size + 1 ≠ w.heap.size; omega) (.int .u16 p.m)).far (p := ⟨w.heap.size, 2, none⟩) (by show w.heap.size + 1 ≠ w.heap.size; omega) (.int .u16 p.v)).far (p := ⟨w.heap.size, 3, none⟩) (by show w.heap.size + 1 ≠ w.heap.size; omega) (.int .u16 p.d)).far (p := ⟨w.heap.size, 4, none⟩) (by show w.heap.size + 1 ≠ w.heap.size; omega) (.int .u16 p.h)).far (p := ⟨w.heap.size, 5, none⟩) (by show w.heap.size + 1 ≠ w.heap.size; omega) (.int .u16 p.i)).far (p := ⟨w.heap.size, 6, none⟩) (by show w.heap.size + 1 ≠ w.heap.size; omega) (.int .u16 p.s)).far (p := ⟨w.heap.size, 7, none⟩) (by show w.heap.size + 1 ≠ w.heap.size; omega) (.int .u16 p.u)).set_ 0 (.int .u16 q.y)).set_ 1 (.int .u16 q.m)).set_ 2 (.int .u16 q.v)).set_ 3 (.int .u16 q.d)).set_ 4 (.int .u16 q.h)).set_ 5 (.int .u16 q.i)).set_ 6 (.int .u16 q.s)).set_ 7 (.int .u16 999))
  simp at hX hY
  clear a6 b6 x6 y6
  go_region
  all_goals
    go_wp2_with fail
    exact bodyPost_ret (res_cct rfl _ _ _ _ _ _ #[.int .u16 p.y, .int .u16 p.m, .int .u16 p.v, .int .u16 p.d, .int .u16 p.h, .int .u16 p.i, .int .u16 p.s, .int .u16 p.u] #[.int .u16 q.y, .int .u16 q.m, .int .u16 q.v, .int .u16 q.d, .int .u16 q.h, .int .u16 q.i, .int .u16 q.s, .int .u16 999] _ _ _ rfl rfl rfl hX hY Tryd.underlying26 rfl (by kernel_rfl) Tryd.underlying26 rfl (by kernel_rfl)) rfl ⟨rfl, hBel⟩
theorem rends_yes (Y : Int) (w : World) (hT : Tab w) (h1 : 1601 ≤ Y) (h2 : Y ≤ 9999) :
    Calls Tryd.prog 18 #[.int .i64 Y] w fun e w' => e = .returned (.tuple #[.agg (sA (enA Y)), .agg (sA (enB Y)), .int .i64 0]) ∧ Below w.heap.size w w' := by
  have hb := begY_bd (Y := Y) (by omega) h2
  have p := fs_yes (fs_in h1 h2 (c := begY Y) (by omega) hb.1)
  have q := fs_yes (fs_in h1 h2 (c := begY (Y + 1) - 1) (by omega) (by omega))
  have hp := fun w hT => rstamp_any (begY Y) w hT (by omega) (by omega)
  have hq := fun w hT => rstamp_any (begY (Y + 1) - 1) w hT (by omega) (by omega)
  simp only [p.1, p.2] at hp
  simp only [q.1, q.2] at hq
  exact rends_of Y (begY Y) (begY (Y + 1)) _ _ w hT (fun w => rbegin_any Y w (by omega) (by omega)) (fun w => rbegin_any (Y + 1) w (by omega) (by omega)) (by omega) (by omega) hp hq (by omega) (by omega)
set_option maxRecDepth 20000 in
set_option maxHeartbeats 1600000 in
theorem rends_no (Y : Int) (w : World) (h : inY Y = false) :
    Calls Tryd.prog 18 #[.int .i64 Y] w fun e w' => e = .returned (.tuple #[.agg (sA St.nil), .agg (sA St.nil), .int .i64 1]) ∧ Below w.heap.size w w' := by
  have b1 : Below w.heap.size w ((w.alloc (.cells z8 26)).alloc (.cells z8 26)) := ((Below.refl _ _).alloc (Nat.le_refl _) _).alloc (by simp) _
  have x1 := (Blk.new w 26 z8).alloc (.cells z8 26)
  have y1 : Blk ((w.alloc (.cells z8 26)).alloc (.cells z8 26)) (w.heap.size + 1) 26 z8 := blk_at _ _ _ (sz1 w _ rfl)
  have x2 := Blk.row x1 z8
  have y2 := Blk.rowFar y1 (show w.heap.size + 1 ≠ w.heap.size by omega) z8
  have h' : Y < 1601 ∨ (¬ Y < 1601 ∧ 9999 < Y) := by unfold inY at h; have := of_decide_eq_false h; omega
  unfold z8 at b1 x1 y1 x2 y2
  clear h
  rcases h' with z1 | ⟨z1, z2⟩
  all_goals
    go_enter Tryd.func18, Tryd.ntmps18
    go_wp2_with (first
      | refine wpList_store_g rfl 26 _ _ rfl rfl _ 0 z8 z8 rfl rfl _ _ x1 (by show 0 + 8 ≤ 8; decide) (by kernel_rfl) (by kernel_rfl) (by kernel_rfl) ?_
      | refine wpList_store_g rfl 26 _ _ rfl rfl _ 0 z8 z8 rfl rfl _ _ y2 (by show 0 + 8 ≤ 8; decide) (by kernel_rfl) (by kernel_rfl) (by kernel_rfl) ?_)
    exact bodyPost_ret (res_cct rfl _ _ _ _ _ _ z8 z8 _ _ _ rfl rfl rfl (Blk.rowFar x2 (show w.heap.size ≠ w.heap.size + 1 by omega) _) (Blk.row y2 _) Tryd.underlying26 rfl (by kernel_rfl) Tryd.underlying26 rfl (by kernel_rfl)) rfl ⟨rfl, below_row (below_row b1 (Nat.le_refl _) _) (Nat.le_succ _) _⟩
/-- the first and the last span's begin -/
theorem ris_any (A : Option Addr) (n c : Nat) (l : List Sp) (Y : Int) (w : World) (hs : Spans w w.heap.size A n l) (hm : n ≤ maxLen) (h1 : 1601 ≤ Y) (h2 : Y ≤ 9999) :
    Calls Tryd.prog 44 #[.slice A n c, .int .i64 Y] w fun e w' => e = .returned (.bool (rgB l Y)) ∧ Below w.heap.size w w' := by
  have hck := fun w' (hb : Below w.heap.size w w') => rcheck_any A n c l w' ((hs.below hb).more hb.size) hm
  have hb1 := fun w => rbegin_any Y w (by omega) (by omega)
  have hb2 := fun w => rbegin_any (Y + 1) w (by omega) (by omega)
  unfold maxLen at hm
  cases hk : lkB l with
  | false =>
    have hE : lkE l = 2 := by unfold lkE; rw [hk]; rfl
    have hR := Lib.hid (show rgB l Y = false by unfold rgB; rw [hk]; rfl)
    rw [hE] at hck
    clear hE hk hs
    go_enter Tryd.func44, Tryd.ntmps44
    go_wp2_with fail
    refine (hck _ (Below.refl _ _)).mono ?_; rintro e w1 ⟨rfl, hb⟩
    go_wp2_with fail
    go_ret
    exact ⟨by rw [hR.out]; rfl, hb⟩
  | true =>
    have hE : lkE l = 0 := by unfold lkE; rw [hk]; rfl
    rw [hE] at hck
    have hln := hs.1
    have hpos := (lk_iff.1 hk).1
    obtain ⟨m, rfl⟩ : ∃ m, n = m + 1 := ⟨n - 1, by omega⟩
    have hlm : l.length - 1 = m := by omega
    have hR := Lib.hid (show rgB l Y = decide ((at_ l 0).f = begY Y ∧ (at_ l m).f < begY (Y + 1)) by unfold rgB; rw [hk, hlm]; rfl)
    have by_ := begY_bd (Y := Y) (by omega) h2
    generalize hF : begY Y = F at *
    generalize hT : begY (Y + 1) = T at *
    obtain ⟨f0, e0⟩ : ∃ a, at_ l 0 = a := ⟨_, rfl⟩
    obtain ⟨f1, e1⟩ : ∃ a, at_ l m = a := ⟨_, rfl⟩
    have i1 : (0 : Int) < ((m + 1 : Nat) : Int) := by omega
    have i3 : (m : Int) < ((m + 1 : Nat) : Int) := by omega
    have i4 : IntKind.i64.wrap (m : Int) = (m : Int) := by simp [IntKind.wrap, IntKind.bits, IntKind.signed]; omega
    clear hE hk hln hpos hlm hF hT
    have rows : ∀ w', Below w.heap.size w w' → ∃ ad, A = some ad ∧ Row w' w.heap.size (ad.add (0 * 3)) f0.A ∧ Row w' w.heap.size (ad.add (m * 3)) f1.A := fun w' hb => by
      obtain ⟨ad, rfl, r1⟩ := (hs.below hb).row (k := 0) (by omega)
      obtain ⟨ad', e, r2⟩ := (hs.below hb).row (k := m) (by omega)
      obtain rfl := Option.some.inj e
      rw [e0] at r1; rw [e1] at r2
      exact ⟨_, rfl, r1, r2⟩
    rw [e0, e1] at hR
    clear hs e0 e1
    by_cases q1 : f0.f = F
    · by_cases q2 : f1.f < T
      · have hV := Lib.hid (show rgB l Y = true by rw [hR.out]; simp [q1, q2])
        have q1' : (f0.f == F) = true := by simpa using q1
        clear hR q1
        go_enter Tryd.func44, Tryd.ntmps44
        go_wp2_with fail
        refine (hck _ (Below.refl _ _)).mono ?_; rintro e w1 ⟨rfl, hb⟩
        obtain ⟨ad, rfl, r1, r2⟩ := rows _ hb
        obtain ⟨q10, q11, q12, q13, q14⟩ := SpAt.of r1
        obtain ⟨q20, q21, q22, q23, q24⟩ := SpAt.of r2
        simp only [Nat.zero_mul] at q10
        rw [add_zero] at q10
        go_wp2_with fail
        refine (hb1 _).mono ?_; rintro e wq ⟨rfl, rfl⟩
        go_wp2_with fail
        refine (hb2 _).mono ?_; rintro e wq ⟨rfl, rfl⟩
        go_wp2_with fail
        go_ret
        exact ⟨by rw [hV.out]; rfl, hb⟩
      · have hV := Lib.hid (show rgB l Y = decide (f1.f < T) by rw [hR.out]; simp [q1])
        have q1' : (f0.f == F) = true := by simpa using q1
        clear hR q1
        go_enter Tryd.func44, Tryd.ntmps44
        go_wp2_with fail
        refine (hck _ (Below.refl _ _)).mono ?_; rintro e w1 ⟨rfl, hb⟩
        obtain ⟨ad, rfl, r1, r2⟩ := rows _ hb
        obtain ⟨q10, q11, q12, q13, q14⟩ := SpAt.of r1
        obtain ⟨q20, q21, q22, q23, q24⟩ := SpAt.of r2
        simp only [Nat.zero_mul] at q10
        rw [add_zero] at q10
        go_wp2_with fail
        refine (hb1 _).mono ?_; rintro e wq ⟨rfl, rfl⟩
        go_wp2_with fail
        refine (hb2 _).mono ?_; rintro e wq ⟨rfl, rfl⟩
        go_wp2_with fail
        go_ret
        exact ⟨by rw [hV.out]; rfl, hb⟩
    · have hV := Lib.hid (show rgB l Y = false by rw [hR.out]; simp; intro; contradiction)
      have q1' : (f0.f == F) = false := by simpa using q1
      clear hR q1
      go_enter Tryd.func44, Tryd.ntmps44
      go_wp2_with fail
      refine (hck _ (Below.refl _ _)).mono ?_; rintro e w1 ⟨rfl, hb⟩
      obtain ⟨ad, rfl, r1, r2⟩ := rows _ hb
      obtain ⟨q10, q11, q12, q13, q14⟩ := SpAt.of r1
      simp only [Nat.zero_mul] at q10
      rw [add_zero] at q10
      go_wp2_with fail
      refine (hb1 _).mono ?_; rintro e wq ⟨rfl, rfl⟩
      go_wp2_with fail
      refine (hb2 _).mono ?_; rintro e wq ⟨rfl, rfl⟩
      go_wp2_with fail
      go_ret
      exact ⟨by rw [hV.out]; rfl, hb⟩
end Go.Proofs.YtginidedeefcdaaDoor.Ft
