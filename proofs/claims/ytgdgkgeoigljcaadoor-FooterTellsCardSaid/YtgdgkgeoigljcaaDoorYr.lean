/-
  YEARS: year.second, year.summer, year.state, walked.
-/
import Derived.Test.YtgdgkgeoigljcaaDoorQe
import Derived.Test.YtgdgkgeoigljcaaDoorStpL
namespace Go.Proofs.YtgdgkgeoigljcaaDoor.Yr
open Go.ChangeShapes Go.WideShapes Go.ChangeAt Go.RowKit
open Go.Proofs.YtgdgkgeoigljcaaDoor
open Go.Proofs.YtgdgkgeoigljcaaDoor.Wd
open Go.Proofs.YtgdgkgeoigljcaaDoor.Rec
open Go.Proofs.YtgdgkgeoigljcaaDoor.Civ (Tab Inv)
set_option linter.unusedVariables false
def lcS (s : St) (Y : Int) : Int := Stp.lcV s.y s.m s.v s.d s.h s.i s.s s.u Y
def leS (s : St) (Y : Int) : Int := Stp.dtE s.y s.m s.v s.d s.h s.i s.s s.u Y
def secV (s : St) (Y off : Int) : Int := if leS s Y = 0 then (lcS s Y + 999) / 1000 - off else 4611686018427387904
theorem lc_bd {s : St} (B : s.Bd) {Y : Int} (he : leS s Y = 0) : -9223372036854775808 ≤ lcS s Y ∧ lcS s Y ≤ 9223372036854775807 := by
  obtain ⟨hok, e1, e2, hY1, hY2, m1, m2, v6, h23, i59, s59, u999, d1⟩ := Stp.dt_ok B he
  obtain ⟨_, _, _, _, b5, b6, b7, b8⟩ := B
  have hnr := Cal.num_range hok
  have el : lcS s Y = Cal.num (Stp.dtY s.y s.m s.v s.d s.h s.i s.s s.u Y) (Stp.dtM s.y s.m s.v s.d s.h s.i s.s s.u Y) (Stp.dtD s.y s.m s.v s.d s.h s.i s.s s.u Y) * 86400000 + Stp.msT s.h s.i s.s s.u := if_pos he
  have hm : 0 ≤ Stp.msT s.h s.i s.s s.u ∧ Stp.msT s.h s.i s.s s.u < 86400000 := by unfold Stp.msT; omega
  rw [el]; omega
theorem local_st (s : St) (Y : Int) (w : World) (hT : Tab w) (B : s.Bd) :
    Calls Tryd.prog 70 #[.agg (sA s), .int .i64 Y] w fun e w' => e = .returned (.tuple #[.int .i64 (lcS s Y), .int .i64 (leS s Y)]) ∧ Below w.heap.size w w' :=
  Stp.local_any _ _ _ _ _ _ _ _ Y w hT B
theorem ceil_hi {z : Int} (h : 0 < z.tmod 1000) : z.tdiv 1000 + 1 = (z + 999) / 1000 := by
  have := Int.mul_tdiv_add_tmod z 1000
  have h2 := Int.tmod_lt_of_pos z (show (0 : Int) < 1000 by decide)
  omega
theorem ceil_lo {z : Int} (h : ¬ 0 < z.tmod 1000) : z.tdiv 1000 = (z + 999) / 1000 := by
  have := Int.mul_tdiv_add_tmod z 1000
  have h2 : -1000 < z.tmod 1000 := by
    by_cases hz : 0 ≤ z
    · have := Int.tmod_nonneg 1000 hz; omega
    · have h3 : (-z).tmod 1000 = -(z.tmod 1000) := Int.neg_tmod ..
      have h4 := Int.tmod_lt_of_pos (-z) (show (0 : Int) < 1000 by decide)
      omega
  omega
set_option maxRecDepth 20000 in
set_option maxHeartbeats 1600000 in
theorem second_any (s : St) (Y off : Int) (w : World) (hT : Tab w) (B : s.Bd) (ho : -1152921504606846976 ≤ off ∧ off ≤ 1152921504606846976) :
    Calls Tryd.prog 62 #[.agg (sA s), .int .i64 Y, .int .i64 off] w fun e w' => e = .returned (.int .i64 (secV s Y off)) ∧ Below w.heap.size w w' := by
  have i0 := Civ.Inv.start hT
  have i1 := i0.alloc (.cells (sA s) 24)
  by_cases he : leS s Y = 0
  · have hb := lc_bd B he
    have hv : secV s Y off = (lcS s Y + 999) / 1000 - off := by unfold secV; rw [if_pos he]
    have hloc := local_st s Y _ i1.1 B
    rw [hv]; rw [he] at hloc; clear hv he
    generalize lcS s Y = L at *
    go_enter Tryd.func62, Tryd.ntmps62
    go_wp2_with fail
    refine hloc.mono ?_; rintro e w1 ⟨rfl, hb1⟩
    have i2 := i1.call hb1
    clear hloc
    by_cases hm : 0 < L.tmod 1000
    · have hc := ceil_hi hm
      have hd : -9223372036854780 ≤ L.tdiv 1000 ∧ L.tdiv 1000 ≤ 9223372036854780 := by omega
      go_wp2_with fail
      go_ret
      refine ⟨?_, i2.2⟩
      rw [← hc]; rfl
    · have hc := ceil_lo hm
      have hd : -9223372036854780 ≤ L.tdiv 1000 ∧ L.tdiv 1000 ≤ 9223372036854780 := by omega
      go_wp2_with fail
      go_ret
      refine ⟨?_, i2.2⟩
      rw [← hc]; rfl
  · have hv : secV s Y off = 4611686018427387904 := by unfold secV; rw [if_neg he]
    rw [hv]; clear hv
    have heb : (leS s Y != 0) = true := by simp [he]
    go_enter Tryd.func62, Tryd.ntmps62
    go_wp2_with fail
    refine (local_st s Y _ i1.1 B).mono ?_; rintro e w1 ⟨rfl, hb1⟩
    have i2 := i1.call hb1
    clear he
    go_wp2_with fail
    go_ret
    exact ⟨rfl, i2.2⟩
def sumB (a b t : Int) : Bool := if a < b then decide (a ≤ t) && decide (t < b) else if b < a then decide (t < b) || decide (a ≤ t) else false
abbrev twoV (a b : Int) : Value := .agg #[.int .i64 a, .int .i64 b]
set_option maxRecDepth 20000 in
set_option maxHeartbeats 1600000 in
theorem summer_any (a b t : Int) (w : World) :
    Calls Tryd.prog 64 #[twoV a b, .int .i64 t] w fun e w' => e = .returned (.bool (sumB a b t)) ∧ Below w.heap.size w w' := by
  have hb := (Below.refl w.heap.size w).alloc (Nat.le_refl _) (.cells #[.int .i64 a, .int .i64 b] 75)
  by_cases h1 : a < b
  · by_cases h2 : a ≤ t
    · by_cases h3 : t < b
      · have hv : sumB a b t = true := by unfold sumB; simp [h1, h2, h3]
        rw [hv]; clear hv
        go_enter Tryd.func64, Tryd.ntmps64
        go_wp2
        go_ret
        exact ⟨rfl, hb⟩
      · have hv : sumB a b t = false := by unfold sumB; simp [h1, h2, h3]
        rw [hv]; clear hv
        go_enter Tryd.func64, Tryd.ntmps64
        go_wp2
        go_ret
        exact ⟨rfl, hb⟩
    · have hv : sumB a b t = false := by unfold sumB; simp [h1, h2]
      rw [hv]; clear hv
      go_enter Tryd.func64, Tryd.ntmps64
      go_wp2
      go_ret
      exact ⟨rfl, hb⟩
  · by_cases h4 : b < a
    · by_cases h2 : t < b
      · have hv : sumB a b t = true := by unfold sumB; simp [h1, h2, h4]
        rw [hv]; clear hv
        go_enter Tryd.func64, Tryd.ntmps64
        go_wp2
        go_ret
        exact ⟨rfl, hb⟩
      · by_cases h3 : a ≤ t
        · have hv : sumB a b t = true := by unfold sumB; simp [h1, h2, h3, h4]
          rw [hv]; clear hv
          go_enter Tryd.func64, Tryd.ntmps64
          go_wp2
          go_ret
          exact ⟨rfl, hb⟩
        · have hv : sumB a b t = false := by unfold sumB; simp [h1, h2, h3, h4]
          rw [hv]; clear hv
          go_enter Tryd.func64, Tryd.ntmps64
          go_wp2
          go_ret
          exact ⟨rfl, hb⟩
    · have hv : sumB a b t = false := by unfold sumB; simp [h1, h4]
      rw [hv]; clear hv
      go_enter Tryd.func64, Tryd.ntmps64
      go_wp2
      go_ret
      exact ⟨rfl, hb⟩
theorem offS_bd {b c d : Int} {p q : St} (B : RBd b c d p q) : (-1152921504606846976 ≤ offS b c ∧ offS b c ≤ 1152921504606846976) ∧ (-1152921504606846976 ≤ offS b d ∧ offS b d ≤ 1152921504606846976) := by
  have h1 := B.b; have h2 := B.c; have h3 := B.d
  unfold offS; omega
theorem results_st {fn : Func} {p : Tmp} (h : fn.results = #[.cell p 81]) (tmps : Array Value) (w : World) (g : Nat) (t : TypeId) (cs : Array Value)
    (hp : tmps.getD p undef = .pointer (some ⟨g, 0, none⟩)) (hg : w.heap[g]? = some (.cells cs t (0, 0))) (hs : cs.size = 3) :
    (results fn tmps).run Tryd.prog w = .ok (.agg cs) w := by
  have hp' : tmps[p]?.getD undef = .pointer (some ⟨g, 0, none⟩) := by simpa using hp
  have hi : (Tryd.prog.info? 81).map (·.size) = some cs.size := by rw [hs]; kernel_rfl
  simp [results, h, hp', asAddr, run_loadVar_row w g t 81 cs (0, 0) _ hg Tryd.underlying81 rfl hi]
def stO (b c d x y t : Int) : Int := if sumB x y t = true then offS b d else offS b c
abbrev stA0 (o : Int) (s : Bool) : Array Value := #[.int .i64 o, .bool s, .string ⟨#[]⟩]
abbrev stateV (o : Int) (s : Bool) : Value := .agg (stA0 o s)
set_option maxRecDepth 20000 in
set_option maxHeartbeats 3200000 in
theorem state_any (b c d : Int) (p q : St) (x y t : Int) (w : World) (B : RBd b c d p q) :
    Calls Tryd.prog 46 #[rcV b c d p q, twoV x y, .int .i64 t] w fun e w' => e = .returned (stateV (stO b c d x y t) (sumB x y t)) ∧ Below w.heap.size w w' := by
  have b0 := Below.refl w.heap.size w
  have b1 := b0.alloc (Nat.le_refl _) (.cells (rcA b c d p q) 26)
  have b2 := b1.alloc b1.size (.cells #[.int .i64 x, .int .i64 y] 75)
  have b3 := b2.alloc b2.size (.cells (stA0 0 false) 81)
  have x0 := ((Blk.new w 26 (rcA b c d p q)).alloc (.cells #[.int .i64 x, .int .i64 y] 75)).alloc (.cells (stA0 0 false) 81)
  have y0 := (blk_at (w.alloc (.cells (rcA b c d p q) 26)) 75 #[.int .i64 x, .int .i64 y] (sz1 _ _ rfl)).alloc (.cells (stA0 0 false) 81)
  have z0 := blk_at ((w.alloc (.cells (rcA b c d p q) 26)).alloc (.cells #[.int .i64 x, .int .i64 y] 75)) 81 (stA0 0 false) (sz1 _ _ (sz1 _ _ rfl))
  unfold rcA stA0 at x0 y0 z0 b3
  cases hs : sumB x y t
  · have hso : stO b c d x y t = offS b c := by unfold stO; rw [hs]; rfl
    have hsu := fun w => summer_any x y t w
    rw [hs] at hsu; rw [hso]; clear hso hs
    go_enter Tryd.func46, Tryd.ntmps46
    go_wp2_with (refine wpList_row_g rfl 26 _ rfl _ rfl _ _ _ _ x0 Tryd.underlying26 rfl (by kernel_rfl) ?_)
    refine (offs_any b c d p q _ B).mono ?_; rintro e w1 ⟨rfl, hb1⟩
    have y1 := y0.below hb1 y0.lt
    have z1 := z0.below hb1 z0.lt
    have b4 := b3.trans (hb1.mono b3.size)
    clear x0 y0 z0 b0 b1 b2 b3 hb1
    go_wp2_with (refine wpList_row_g rfl 75 _ rfl _ rfl _ _ _ _ y1 Tryd.underlying75 rfl (by kernel_rfl) ?_)
    refine (hsu _).mono ?_; rintro e w2 ⟨rfl, hb2⟩
    have z2 := z1.below hb2 z1.lt
    have b5 := b4.trans (hb2.mono b4.size)
    clear y1 z1 b4 hb2 hsu
    go_wp2_with (refine wpList_store_seg rfl 81 _ _ rfl rfl _ 0 (stA0 (offS b c) false) (stA0 (offS b c) false) rfl rfl _ _ z2 (by show 0 + 3 ≤ 3; decide) (by kernel_rfl) (by kernel_rfl) (by kernel_rfl) ?_)
    exact bodyPost_ret (results_st rfl _ _ _ _ _ rfl (Blk.row z2 _) rfl) rfl ⟨rfl, below_row b5 (Nat.le_add_right _ 2) _⟩
  · have hso : stO b c d x y t = offS b d := by unfold stO; rw [hs]; rfl
    have hsu := fun w => summer_any x y t w
    rw [hs] at hsu; rw [hso]; clear hso hs
    go_enter Tryd.func46, Tryd.ntmps46
    go_wp2_with (refine wpList_row_g rfl 26 _ rfl _ rfl _ _ _ _ x0 Tryd.underlying26 rfl (by kernel_rfl) ?_)
    refine (offs_any b c d p q _ B).mono ?_; rintro e w1 ⟨rfl, hb1⟩
    have y1 := y0.below hb1 y0.lt
    have z1 := z0.below hb1 z0.lt
    have b4 := b3.trans (hb1.mono b3.size)
    clear x0 y0 z0 b0 b1 b2 b3 hb1
    go_wp2_with (refine wpList_row_g rfl 75 _ rfl _ rfl _ _ _ _ y1 Tryd.underlying75 rfl (by kernel_rfl) ?_)
    refine (hsu _).mono ?_; rintro e w2 ⟨rfl, hb2⟩
    have z2 := z1.below hb2 z1.lt
    have b5 := b4.trans (hb2.mono b4.size)
    clear y1 z1 b4 hb2 hsu
    go_wp2_with (refine wpList_store_seg rfl 81 _ _ rfl rfl _ 0 (stA0 (offS b d) true) (stA0 (offS b d) true) rfl rfl _ _ z2 (by show 0 + 3 ≤ 3; decide) (by kernel_rfl) (by kernel_rfl) (by kernel_rfl) ?_)
    exact bodyPost_ret (results_st rfl _ _ _ _ _ rfl (Blk.row z2 _) rfl) rfl ⟨rfl, below_row b5 (Nat.le_add_right _ 2) _⟩
end Go.Proofs.YtgdgkgeoigljcaaDoor.Yr
