/-
  THE REFERENCE, walked: which day a stamp is in a year: all days of the month, one by one.
-/
import Derived.Test.YtefcjccapekjdaaDoorRfA
import Derived.Test.YtefcjccapekjdaaDoorStpR
namespace Go.Proofs.YtefcjccapekjdaaDoor.Rf
open Go.ChangeShapes Go.WideShapes Go.ChangeAt Go.RowKit
open Go.Proofs.YtefcjccapekjdaaDoor
open Go.Proofs.YtefcjccapekjdaaDoor.Wd
open Go.Proofs.YtefcjccapekjdaaDoor.Rec
open Go.Proofs.YtefcjccapekjdaaDoor.Stp (stV Bd chkS zeroS okS numS dayS num_iff day_iff zero_iff dtE dtY dtM dtD dt_no dt_yes noneS not_zero pickD dayK date_rule_ok)
open Go.Proofs.YtefcjccapekjdaaDoor.Civ (Tab Inv ret_int dateE dateV)
set_option linter.unusedVariables false
/-- the first day of a month with a day of the week -/
def fsD (Y m v : Int) : Int := 1 + (v + 7 - Cal.wday (Cal.num Y m 1)) % 7
def manyD (f d k : Int) : Int := if k < f then 0 else min ((k - f) / 7 + 1) d
def lastD (f d k : Int) : Int := if manyD f d k = 0 then d else f + 7 * (manyD f d k - 1)
theorem fs_bd (Y m v : Int) : 1 ≤ fsD Y m v ∧ fsD Y m v ≤ 7 := by unfold fsD; omega
theorem num_day (Y m k : Int) : Cal.num Y m k = Cal.num Y m 1 + k - 1 := by unfold Cal.num; omega
theorem wd_iff {Y m v k : Int} (h1 : 0 ≤ v) (h2 : v ≤ 6) : Cal.wday (Cal.num Y m k) = v ↔ (k - fsD Y m v) % 7 = 0 := by
  rw [num_day Y m k]
  unfold fsD Cal.wday
  generalize Cal.num Y m 1 = N
  omega
theorem many_0 {f d : Int} (h : 1 ≤ f) : manyD f d 0 = 0 := by unfold manyD; rw [if_pos (by omega)]
theorem last_0 {f d : Int} (h : 1 ≤ f) : lastD f d 0 = d := by unfold lastD; rw [many_0 h]; rfl
theorem many_bd {f d k : Int} (h : 1 ≤ f) (hd : 1 ≤ d) (hk : k ≤ 31) : 0 ≤ manyD f d k ∧ manyD f d k ≤ 31 ∧ manyD f d k ≤ d := by
  unfold manyD; split <;> omega
theorem many_yes {f d k : Int} (h : 1 ≤ f) (h7 : f ≤ 7) (hd : 1 ≤ d) (hk : 0 ≤ k) (hm : (k + 1 - f) % 7 = 0) (hl : manyD f d k < d) : manyD f d (k + 1) = manyD f d k + 1 ∧ lastD f d (k + 1) = k + 1 := by
  unfold lastD
  unfold manyD at *
  by_cases h1 : k < f
  · have h2 : k + 1 = f := by omega
    rw [if_pos h1, if_neg (by omega), h2]
    simp
    omega
  · rw [if_neg h1] at hl
    rw [if_neg h1, if_neg (by omega)]
    omega
theorem many_full {f d k : Int} (h : 1 ≤ f) (h7 : f ≤ 7) (hd : 1 ≤ d) (hk : 0 ≤ k) (hl : ¬ manyD f d k < d) : manyD f d (k + 1) = manyD f d k ∧ lastD f d (k + 1) = lastD f d k := by
  have e : manyD f d (k + 1) = manyD f d k := by
    unfold manyD at *
    by_cases h1 : k < f
    · rw [if_pos h1] at hl; omega
    · rw [if_neg h1] at hl ⊢; rw [if_neg (by omega)]; omega
  unfold lastD; rw [e]; exact ⟨rfl, rfl⟩
theorem many_no {f d k : Int} (h : 1 ≤ f) (h7 : f ≤ 7) (hd : 1 ≤ d) (hk : 0 ≤ k) (hm : ¬ (k + 1 - f) % 7 = 0) : manyD f d (k + 1) = manyD f d k ∧ lastD f d (k + 1) = lastD f d k := by
  have e : manyD f d (k + 1) = manyD f d k := by
    unfold manyD
    by_cases h1 : k < f
    · rw [if_pos h1, if_pos (by omega)]
    · rw [if_neg h1, if_neg (by omega)]
      have : (k + 1 - f) / 7 = (k - f) / 7 := by omega
      rw [this]
  unfold lastD; rw [e]; exact ⟨rfl, rfl⟩
theorem last_end {Y m v d : Int} (h1 : 1 ≤ d) (h5 : d ≤ 5) : lastD (fsD Y m v) d (Cal.mlen Y m) = pickD Y m v d := by
  have lb := Cal.mlen_bd Y m
  unfold lastD manyD pickD dayK fsD
  generalize Cal.wday (Cal.num Y m 1) = W
  generalize Cal.mlen Y m = M at *
  have hf : 1 ≤ 1 + (v + 7 - W) % 7 ∧ 1 + (v + 7 - W) % 7 ≤ 7 := by omega
  generalize 1 + (v + 7 - W) % 7 = f at *
  rw [if_neg (by omega)]
  have hc : (M - f) / 7 = 3 ∨ (M - f) / 7 = 4 := by omega
  by_cases hx : M < f + 7 * (d - 1)
  · rw [if_pos hx, if_neg (by omega)]; omega
  · rw [if_neg hx, if_neg (by omega)]; omega
theorem rchk_eq {y m v d h i s u : Int} {w : World} (B : Bd y m v d h i s u) (e : Int) (he : chkS y m v d h i s u = e) :
    Calls Tryd.prog 85 #[stV y m v d h i s u] w fun z w' => z = .returned (.int .i64 e) ∧ Below w.heap.size w w' := by
  have := rchkS_any y m v d h i s u w B; rwa [he] at this
theorem results_de {fn : Func} {p q : Tmp} (h : fn.results = #[.cell p 142, .tmp q]) (tmps : Array Value) (w : World) (g : Nat) (t : TypeId) (cs : Array Value) (v : Value)
    (hp : tmps.getD p undef = .pointer (some ⟨g, 0, none⟩)) (hq : tmps.getD q undef = v) (hg : w.heap[g]? = some (.cells cs t (0, 0))) (hs : cs.size = 3) :
    (results fn tmps).run Tryd.prog w = .ok (.tuple #[.agg cs, v]) w := by
  have hp' : tmps[p]?.getD undef = .pointer (some ⟨g, 0, none⟩) := by simpa using hp
  have hq' : tmps[q]?.getD undef = v := by simpa using hq
  have hi : (Tryd.prog.info? 142).map (·.size) = some cs.size := by rw [hs]; kernel_rfl
  simp [results, h, hp', hq', asAddr, run_loadVar_row w g t 142 cs (0, 0) _ hg Tryd.underlying142 rfl hi]
abbrev dA (y m d : Int) : Array Value := #[.int .i64 y, .int .i64 m, .int .i64 d]
abbrev sA8 (y m v d h i s u : Int) : Array Value := #[.int .u16 y, .int .u16 m, .int .u16 v, .int .u16 d, .int .u16 h, .int .u16 i, .int .u16 s, .int .u16 u]
set_option maxRecDepth 100000 in
set_option maxHeartbeats 4000000 in
attribute [-go_sem] run_eql_struct in
theorem rdate_no (y m v d h i s u Y : Int) (w : World) (B : Bd y m v d h i s u) (he : dtE y m v d h i s u Y ≠ 0) :
    Calls Tryd.prog 113 #[stV y m v d h i s u, .int .i64 Y] w fun e w' => e = .returned (dateE (dtY y m v d h i s u Y) (dtM y m v d h i s u Y) (dtD y m v d h i s u Y) (dtE y m v d h i s u Y)) ∧ Below w.heap.size w w' := by
  have b0 := Below.refl w.heap.size w
  have b1 := b0.alloc (Nat.le_refl _) (.cells (sA8 y m v d h i s u) 24)
  have b2 := b1.alloc b1.size (.cells (dA 0 0 0) 142)
  have x0 := (Blk.new w 24 (sA8 y m v d h i s u)).alloc (.cells (dA 0 0 0) 142)
  have z0 := blk_at (w.alloc (.cells (sA8 y m v d h i s u) 24)) 142 (dA 0 0 0) (sz1 _ _ rfl)
  rw [← dt_no rfl he]
  cases hk : okS y m v d h i s u
  · have E : dtE y m v d h i s u Y = 2 := by unfold dtE; rw [if_pos hk]
    have hc := fun w => rchk_eq (w := w) B 2 (by unfold chkS; rw [hk]; rfl)
    rw [E]; clear E he hk
    go_enter Tryd.func113, Tryd.ntmps113
    go_wp2_with (refine wpList_row_g rfl 24 _ rfl _ rfl _ _ _ _ x0 Tryd.underlying24 rfl (by kernel_rfl) ?_)
    refine (hc _).mono ?_; rintro e w1 ⟨rfl, hb1⟩
    have z1 := z0.below hb1 z0.lt
    have b3 := b2.trans (hb1.mono b2.size)
    clear hc x0 z0 b2 hb1
    go_wp2_with (refine wpList_store_g rfl 142 _ _ rfl rfl _ 0 (dA 0 0 0) (dA 0 0 0) rfl rfl _ _ z1 (by show 0 + 3 ≤ 3; decide) (by kernel_rfl) (by kernel_rfl) (by kernel_rfl) ?_)
    exact bodyPost_ret (results_de rfl _ _ _ _ _ _ rfl rfl (Blk.row z1 _) rfl) rfl ⟨rfl, below_row b3 (Nat.le_add_right _ 1) _⟩
  · have hc := fun w => rchk_eq (w := w) B 0 (by unfold chkS; rw [if_pos hk])
    by_cases hY : 1601 ≤ Y ∧ Y ≤ 9999
    · have hn : noneS y m v d h i s u Y = true := by
        cases hh : noneS y m v d h i s u Y
        · exfalso; apply he; unfold dtE; rw [if_neg (by rw [hk]; decide), if_neg (by omega), if_neg (by rw [hh]; decide)]
        · rfl
      have E : dtE y m v d h i s u Y = 3 := by unfold dtE; rw [if_neg (by rw [hk]; decide), if_neg (by omega), if_pos hn]
      rw [E]; clear E he
      obtain ⟨r1, r2⟩ := hY
      have hq := eq_st ⟨y, m, v, d, h, i, s, u⟩
      have BB := B
      obtain ⟨⟨b11, b12⟩, _, _, _, _, _, _, _⟩ := BB
      cases hz : zeroS y m v d h i s u
      · have hyy : y ≠ 0 ∧ y ≠ Y := by unfold noneS at hn; rw [hz] at hn; simpa using hn
        obtain ⟨y1, y2⟩ := hyy
        have yb1 : (y != 0) = true := by simpa using y1
        have yb2 : (y != Y) = true := by simpa using y2
        rw [show St.zero ⟨y, m, v, d, h, i, s, u⟩ = false from hz] at hq
        clear hk hn hz y1 y2
        go_enter Tryd.func113, Tryd.ntmps113
        go_wp2_with (refine wpList_row_g rfl 24 _ rfl _ rfl _ _ _ _ x0 Tryd.underlying24 rfl (by kernel_rfl) ?_)
        refine (hc _).mono ?_; rintro e w1 ⟨rfl, hb1⟩
        have x1 := x0.below hb1 x0.lt
        have z1 := z0.below hb1 z0.lt
        have b3 := b2.trans (hb1.mono b2.size)
        clear hc x0 z0 b2 hb1
        have c0 := x1.cell 0; simp at c0
        go_upto_region 6 with (refine wpList_load_row rfl 24 _ rfl _ rfl _ _ _ _ x1 Tryd.underlying24 rfl (by kernel_rfl) ?_)
        go_wp2_with (refine wpList_store_g rfl 142 _ _ rfl rfl _ 0 (dA 0 0 0) (dA 0 0 0) rfl rfl _ _ z1 (by show 0 + 3 ≤ 3; decide) (by kernel_rfl) (by kernel_rfl) (by kernel_rfl) ?_)
        exact bodyPost_ret (results_de rfl _ _ _ _ _ _ rfl rfl (Blk.row z1 _) rfl) rfl ⟨rfl, below_row b3 (Nat.le_add_right _ 1) _⟩
      · rw [show St.zero ⟨y, m, v, d, h, i, s, u⟩ = true from hz] at hq
        clear hk hn hz
        go_enter Tryd.func113, Tryd.ntmps113
        go_wp2_with (refine wpList_row_g rfl 24 _ rfl _ rfl _ _ _ _ x0 Tryd.underlying24 rfl (by kernel_rfl) ?_)
        refine (hc _).mono ?_; rintro e w1 ⟨rfl, hb1⟩
        have x1 := x0.below hb1 x0.lt
        have z1 := z0.below hb1 z0.lt
        have b3 := b2.trans (hb1.mono b2.size)
        clear hc x0 z0 b2 hb1
        have c0 := x1.cell 0; have c1 := x1.cell 1; have c2 := x1.cell 2; have c3 := x1.cell 3; have c4 := x1.cell 4; have c5 := x1.cell 5; have c6 := x1.cell 6; have c7 := x1.cell 7; simp at c0 c1 c2 c3 c4 c5 c6 c7
        go_upto_region 6 with fail
        go_wp2_with (refine wpList_store_g rfl 142 _ _ rfl rfl _ 0 (dA 0 0 0) (dA 0 0 0) rfl rfl _ _ z1 (by show 0 + 3 ≤ 3; decide) (by kernel_rfl) (by kernel_rfl) (by kernel_rfl) ?_)
        exact bodyPost_ret (results_de rfl _ _ _ _ _ _ rfl rfl (Blk.row z1 _) rfl) rfl ⟨rfl, below_row b3 (Nat.le_add_right _ 1) _⟩
    · have E : dtE y m v d h i s u Y = 1 := by unfold dtE; rw [if_neg (by rw [hk]; decide), if_pos hY]
      rw [E]; clear E he hk
      have hY' : Y < 1601 ∨ (1601 ≤ Y ∧ 9999 < Y) := by omega
      clear hY
      rcases hY' with r1 | ⟨r1, r2⟩
      all_goals
        go_enter Tryd.func113, Tryd.ntmps113
        go_wp2_with (refine wpList_row_g rfl 24 _ rfl _ rfl _ _ _ _ x0 Tryd.underlying24 rfl (by kernel_rfl) ?_)
        refine (hc _).mono ?_; rintro e w1 ⟨rfl, hb1⟩
        have z1 := z0.below hb1 z0.lt
        have b3 := b2.trans (hb1.mono b2.size)
        clear hc x0 z0 b2 hb1
        go_wp2_with (refine wpList_store_g rfl 142 _ _ rfl rfl _ 0 (dA 0 0 0) (dA 0 0 0) rfl rfl _ _ z1 (by show 0 + 3 ≤ 3; decide) (by kernel_rfl) (by kernel_rfl) (by kernel_rfl) ?_)
        exact bodyPost_ret (results_de rfl _ _ _ _ _ _ rfl rfl (Blk.row z1 _) rfl) rfl ⟨rfl, below_row b3 (Nat.le_add_right _ 1) _⟩
set_option maxRecDepth 100000 in
set_option maxHeartbeats 4000000 in
attribute [-go_sem] run_eql_struct in
theorem rdate_exact (y m v d h i s u : Int) (w : World) (B : Bd y m v d h i s u) (he : dtE y m v d h i s u y = 0) (hy : 1601 ≤ y ∧ y ≤ 9999) (hk : okS y m v d h i s u = true) :
    Calls Tryd.prog 113 #[stV y m v d h i s u, .int .i64 y] w fun e w' => e = .returned (dateE (dtY y m v d h i s u y) (dtM y m v d h i s u y) (dtD y m v d h i s u y) (dtE y m v d h i s u y)) ∧ Below w.heap.size w w' := by
  have b0 := Below.refl w.heap.size w
  have b1 := b0.alloc (Nat.le_refl _) (.cells (sA8 y m v d h i s u) 24)
  have b2 := b1.alloc b1.size (.cells (dA 0 0 0) 142)
  have x0 := (Blk.new w 24 (sA8 y m v d h i s u)).alloc (.cells (dA 0 0 0) 142)
  have z0 := blk_at (w.alloc (.cells (sA8 y m v d h i s u) 24)) 142 (dA 0 0 0) (sz1 _ _ rfl)
  have hc := fun w => rchk_eq (w := w) B 0 (by unfold chkS; rw [if_pos hk])
  obtain ⟨r1, r2⟩ := hy
  rw [← dt_yes he, if_neg (by omega)]
  have hq := eq_st ⟨y, m, v, d, h, i, s, u⟩
  have hz : zeroS y m v d h i s u = false := by
    cases hh : zeroS y m v d h i s u
    · rfl
    · have := zero_iff.1 hh; omega
  rw [show St.zero ⟨y, m, v, d, h, i, s, u⟩ = false from hz] at hq
  have y1 : ¬ y = 0 := by omega
  obtain ⟨⟨b11, b12⟩, ⟨b21, b22⟩, _, ⟨b41, b42⟩, _, _, _, _⟩ := B
  clear hk hz he
  go_enter Tryd.func113, Tryd.ntmps113
  go_wp2_with (refine wpList_row_g rfl 24 _ rfl _ rfl _ _ _ _ x0 Tryd.underlying24 rfl (by kernel_rfl) ?_)
  refine (hc _).mono ?_; rintro e w1 ⟨rfl, hb1⟩
  have x1 := x0.below hb1 x0.lt
  have z1 := (z0.below hb1 z0.lt).alloc (.cells (dA y m d) 142)
  have d1 := Blk.new w1 142 (dA y m d)
  have b3 := b2.trans (hb1.mono b2.size)
  have b4 := b3.alloc b3.size (.cells (dA y m d) 142)
  have hsz := x1.lt
  have c0 := x1.cell 0; have c1 := x1.cell 1; have c3 := x1.cell 3; simp at c0 c1 c3
  clear hc x0 z0 b2 hb1 b3
  go_wp2_with (first
    | refine wpList_row_g rfl 24 _ rfl _ rfl _ _ _ _ x1 Tryd.underlying24 rfl (by kernel_rfl) ?_
    | refine wpList_store_new rfl 142 _ _ rfl rfl w1.heap.size (dA y m d) rfl rfl _ (dA 0 0 0) w1 rfl rfl rfl (by kernel_rfl) (by kernel_rfl) ?_
    | refine wpList_row_g rfl 142 _ rfl _ rfl _ _ _ _ d1 Tryd.underlying142 rfl (by kernel_rfl) ?_
    | refine wpList_store_g rfl 142 _ _ rfl rfl _ 0 (dA y m d) (dA y m d) rfl rfl _ _ z1 (by show 0 + 3 ≤ 3; decide) (by kernel_rfl) (by kernel_rfl) (by kernel_rfl) ?_)
  exact bodyPost_ret (results_de rfl _ _ _ _ _ _ rfl rfl (Blk.row z1 _) rfl) rfl ⟨rfl, below_row b4 (Nat.le_add_right _ 1) _⟩
set_option maxRecDepth 100000 in
set_option maxHeartbeats 8000000 in
attribute [-go_sem] run_eql_struct in
theorem rdate_rule (m v d h i s u Y : Int) (w : World) (B : Bd 0 m v d h i s u) (hY : 1601 ≤ Y ∧ Y ≤ 9999) (hk : okS 0 m v d h i s u = true) (hz : zeroS 0 m v d h i s u = false) (he : dtE 0 m v d h i s u Y = 0) :
    Calls Tryd.prog 113 #[stV 0 m v d h i s u, .int .i64 Y] w fun e w' => e = .returned (dateE (dtY 0 m v d h i s u Y) (dtM 0 m v d h i s u Y) (dtD 0 m v d h i s u Y) (dtE 0 m v d h i s u Y)) ∧ Below w.heap.size w w' := by
  have b0 := Below.refl w.heap.size w
  have b1 := b0.alloc (Nat.le_refl _) (.cells (sA8 0 m v d h i s u) 24)
  have b2 := b1.alloc b1.size (.cells (dA 0 0 0) 142)
  have x0 := (Blk.new w 24 (sA8 0 m v d h i s u)).alloc (.cells (dA 0 0 0) 142)
  have z0 := blk_at (w.alloc (.cells (sA8 0 m v d h i s u) 24)) 142 (dA 0 0 0) (sz1 _ _ rfl)
  have hc := fun w => rchk_eq (w := w) B 0 (by unfold chkS; rw [if_pos hk])
  rw [← dt_yes he, if_pos rfl]
  have hq := eq_st ⟨0, m, v, d, h, i, s, u⟩
  rw [show St.zero ⟨0, m, v, d, h, i, s, u⟩ = false from hz] at hq
  obtain ⟨n, dy⟩ := not_zero hk hz
  obtain ⟨n1, n2, n3, n4, n5, n6, n7, n8⟩ := num_iff.1 n
  have d5 : d ≤ 5 := by rcases day_iff.1 dy with q | q <;> omega
  obtain ⟨_, _, k3, k4⟩ := date_rule_ok hY n1 n2
  have lb := Cal.mlen_bd Y m
  have hnum : ∀ k : Int, 1 ≤ k → k ≤ Cal.mlen Y m → Cal.numV Y m k = Cal.num Y m k ∧ Cal.chkE Y m k = 0 := fun k h1 h2 => by
    have := Civ.num_on (y := Y) (m := m) (d := k) ((Cal.okD_iff _ _ _).2 ⟨by omega, by omega, n1, n2, h1, h2⟩)
    exact ⟨this.1, this.2.1⟩
  have HL := Lib.hid (last_end (Y := Y) (m := m) (v := v) n8 d5)
  obtain ⟨f1, f7⟩ := fs_bd Y m v
  have HW : ∀ k, Cal.wday (Cal.num Y m k) = v ↔ (k - fsD Y m v) % 7 = 0 := fun k => wd_iff B.v.1 n3
  have hlen := fun w => Civ.rlen_any Y m w
  rw [k3, k4] at hlen
  have H0 := many_0 (d := d) f1
  have H00 := last_0 (d := d) f1
  clear k3 k4 hk hz he n dy
  generalize fsD Y m v = f at *
  generalize Cal.mlen Y m = M at *
  obtain ⟨r1, r2⟩ := hY
  obtain ⟨lb1, lb2⟩ := lb
  obtain ⟨_, ⟨b21, b22⟩, ⟨b31, b32⟩, ⟨b41, b42⟩, _, _, _, _⟩ := B
  go_enter Tryd.func113, Tryd.ntmps113
  go_wp2_with (refine wpList_row_g rfl 24 _ rfl _ rfl _ _ _ _ x0 Tryd.underlying24 rfl (by kernel_rfl) ?_)
  refine (hc _).mono ?_; rintro e w1 ⟨rfl, hb1⟩
  have x1 := x0.below hb1 x0.lt
  have z1 := (z0.below hb1 z0.lt).alloc (.cells (dA Y m d) 142)
  have hsz : w.heap.size + 1 < w1.heap.size := (z0.below hb1 z0.lt).lt
  have hsz0 : w.heap.size < w1.heap.size := x1.lt
  have d1 := Blk.new w1 142 (dA Y m d)
  have b3 := b2.trans (hb1.mono b2.size)
  have b4 := b3.alloc b3.size (.cells (dA Y m d) 142)
  have c0 := x1.cell 0; have c1 := x1.cell 1; have c3 := x1.cell 3; simp at c0 c1 c3
  have e1 := d1.cell 1; simp at e1
  clear hc x0 z0 b2 hb1 b3
  go_wp2_with (first
    | refine wpList_row_g rfl 24 _ rfl _ rfl _ _ _ _ x1 Tryd.underlying24 rfl (by kernel_rfl) ?_
    | refine wpList_store_new rfl 142 _ _ rfl rfl w1.heap.size (dA Y m d) rfl rfl _ (dA 0 0 0) w1 rfl rfl rfl (by kernel_rfl) (by kernel_rfl) ?_)
  refine (hlen _).mono ?_; rintro e w2 ⟨rfl, rfl⟩
  clear c0 c1 c3 e1 hq hlen
  have x2 := x1.alloc (.cells (dA Y m d) 142)
  go_wp2_with fail
  go_loopw [9, 10] (fun mm dd w' => ∃ k : Nat, dd = .int .i64 (k + 1) ∧ (k : Int) ≤ M ∧ mm = .int .u16 (manyD f d k) ∧ Below w.heap.size w w' ∧ Blk w' w.heap.size 24 (sA8 0 m v d h i s u) ∧ Blk w' (w.heap.size + 1) 142 (dA 0 0 0) ∧ Blk w' w1.heap.size 142 (dA Y m (lastD f d k))) (fun _ dd _ => (M + 1 - intOf dd).toNat)
  case atStart => exact ⟨0, rfl, by omega, by rw [show ((0 : Nat) : Int) = 0 from rfl, H0], b4, x2, z1, by rw [show ((0 : Nat) : Int) = 0 from rfl, H00]; exact d1⟩
  case round =>
    clear b4 x2 z1 d1 x1 b0 b1
    obtain ⟨k, rfl, hkM, rfl, hb, hx, hz, hd⟩ := hrel
    have hmb := many_bd (k := (k : Int)) f1 n8 (by omega)
    by_cases hlt : (k : Int) + 1 ≤ M
    · obtain ⟨u1, u2⟩ := hnum ((k : Int) + 1) (by omega) hlt
      have hdays := fun w => Civ.rdays_any Y m ((k : Int) + 1) w
      rw [u1, u2] at hdays
      have hw := HW ((k : Int) + 1)
      have HN := Lib.hid (many_no (k := (k : Int)) f1 f7 n8 (by omega))
      have HF := Lib.hid (many_full (k := (k : Int)) f1 f7 n8 (by omega))
      have HY := Lib.hid (many_yes (k := (k : Int)) f1 f7 n8 (by omega))
      have e1 := hd.cell 1; simp at e1
      clear u1 u2 hnum HW
      generalize Cal.num Y m ((k : Int) + 1) = N at *
      generalize hmm : manyD f d k = mm at *
      generalize hll : lastD f d k = ll at *
      have HM := Lib.hid hmm; have HLL := Lib.hid hll
      clear hmm hll
      obtain ⟨m1, m2, m3⟩ := hmb
      go_wp2_with fail
      refine (hdays _).mono ?_; rintro e w3 ⟨rfl, hb3⟩
      have hx3 := hx.below hb3 hx.lt
      have hz3 := hz.below hb3 hz.lt
      have hd3 := hd.below hb3 hd.lt
      have hbb := hb.trans (hb3.mono hb.size)
      clear hdays hx hz hd hb3 e1 hb
      have c2 := hx3.cell 2; have c3 := hx3.cell 3; simp at c2 c3
      have g0 := hd3.cell 0; have g1 := hd3.cell 1; have g2 := hd3.cell 2; simp at g0 g1 g2; have fz := hd3.frozen 2
      by_cases hwv : Cal.wday N = v
      · have hwb : (Cal.wday N == v) = true := by simp [hwv]
        by_cases hl : mm < d
        · have HY' := Lib.hid (HY.out (hw.1 hwv) hl)
          clear hw hwv
          go_upto_region 16 with fail
          go_quiet ((go_at_call 115; exact Calls.quiet_of_same ((Civ.rwd_any _ _).mono fun _ _ q => ⟨q.1, q.2.symm⟩)))
          go_wp2_with fail
          go_roundw
          case rel => exact ⟨k + 1, by go_num, by omega, by first | (rw [show ((k + 1 : Nat) : Int) = (k : Int) + 1 by omega, HY'.out.1]; done) | (rw [show ((k + 1 : Nat) : Int) = (k : Int) + 1 by omega, HY'.out.1]; rfl), Below.setCell (p := ⟨w1.heap.size, 2, none⟩) (bdrewN hbb _) (by show w.heap.size ≤ w1.heap.size; omega) _, (hx3.drewN _).far (by show w.heap.size ≠ w1.heap.size; omega) _, (hz3.drewN _).far (by show w.heap.size + 1 ≠ w1.heap.size; omega) _, by rw [show ((k + 1 : Nat) : Int) = (k : Int) + 1 by omega, HY'.out.2]; exact (hd3.drewN _).set_ 2 _⟩
          case measure => simp [intOf]; omega
        · have HF' := Lib.hid (HF.out (by omega))
          clear hw hwv
          go_upto_region 16 with fail
          go_quiet ((go_at_call 115; exact Calls.quiet_of_same ((Civ.rwd_any _ _).mono fun _ _ q => ⟨q.1, q.2.symm⟩)))
          go_wp2_with fail
          go_roundw
          case rel => exact ⟨k + 1, by go_num, by omega, by first | (rw [show ((k + 1 : Nat) : Int) = (k : Int) + 1 by omega, HF'.out.1]; done) | (rw [show ((k + 1 : Nat) : Int) = (k : Int) + 1 by omega, HF'.out.1]; rfl), bdrewN hbb _, hx3.drewN _, hz3.drewN _, by rw [show ((k + 1 : Nat) : Int) = (k : Int) + 1 by omega, HF'.out.2]; exact hd3.drewN _⟩
          case measure => simp [intOf]; omega
      · have HN' := Lib.hid (HN.out (fun q => hwv (hw.2 q)))
        have hwb : (Cal.wday N == v) = false := by simp [hwv]
        clear hw hwv
        go_upto_region 16 with fail
        go_quiet ((go_at_call 115; exact Calls.quiet_of_same ((Civ.rwd_any _ _).mono fun _ _ q => ⟨q.1, q.2.symm⟩)))
        go_wp2_with fail
        go_roundw
        case rel => exact ⟨k + 1, by go_num, by omega, by first | (rw [show ((k + 1 : Nat) : Int) = (k : Int) + 1 by omega, HN'.out.1]; done) | (rw [show ((k + 1 : Nat) : Int) = (k : Int) + 1 by omega, HN'.out.1]; rfl), bdrewN hbb _, hx3.drewN _, hz3.drewN _, by rw [show ((k + 1 : Nat) : Int) = (k : Int) + 1 by omega, HN'.out.2]; exact hd3.drewN _⟩
        case measure => simp [intOf]; omega
    · obtain rfl : (k : Int) = M := by omega
      clear hnum HW
      go_wp2_with (first
        | refine wpList_row_g rfl 142 _ rfl _ rfl _ _ _ _ hd Tryd.underlying142 rfl (by kernel_rfl) ?_
        | refine wpList_store_g rfl 142 _ _ rfl rfl _ 0 (dA Y m (lastD f d k)) (dA Y m (lastD f d k)) rfl rfl _ _ hz (by show 0 + 3 ≤ 3; decide) (by kernel_rfl) (by kernel_rfl) (by kernel_rfl) ?_)
      exact bodyPost_ret (results_de rfl _ _ _ _ _ _ rfl rfl (Blk.row hz _) rfl) rfl ⟨by rw [← HL.out]; rfl, below_row hb (Nat.le_add_right _ 1) _⟩
theorem rdate_any (y m v d h i s u Y : Int) (w : World) (B : Bd y m v d h i s u) :
    Calls Tryd.prog 113 #[stV y m v d h i s u, .int .i64 Y] w fun e w' => e = .returned (dateE (dtY y m v d h i s u Y) (dtM y m v d h i s u Y) (dtD y m v d h i s u Y) (dtE y m v d h i s u Y)) ∧ Below w.heap.size w w' := by
  by_cases he : dtE y m v d h i s u Y = 0
  · have he' := he
    unfold dtE at he'
    by_cases h1 : okS y m v d h i s u = false
    · rw [if_pos h1] at he'; cases he'
    · rw [if_neg h1] at he'
      by_cases h2 : ¬ (1601 ≤ Y ∧ Y ≤ 9999)
      · rw [if_pos h2] at he'; cases he'
      · rw [if_neg h2] at he'
        by_cases h3 : noneS y m v d h i s u Y = true
        · rw [if_pos h3] at he'; cases he'
        · have hk : okS y m v d h i s u = true := by simpa using h1
          have hY : 1601 ≤ Y ∧ Y ≤ 9999 := Decidable.not_not.1 h2
          have hn : noneS y m v d h i s u Y = false := by simpa using h3
          have hz : zeroS y m v d h i s u = false := by
            cases hh : zeroS y m v d h i s u with
            | false => rfl
            | true => unfold noneS at hn; rw [hh] at hn; cases hn
          clear he' h1 h2 h3
          by_cases hy : y = 0
          · subst hy
            exact rdate_rule m v d h i s u Y w B hY hk hz he
          · have hyY : y = Y := by
              apply Decidable.byContradiction; intro hc
              unfold noneS at hn
              simp [hy, hc] at hn
            subst hyY
            exact rdate_exact y m v d h i s u w B he hY hk
  · exact rdate_no y m v d h i s u Y w B he
end Go.Proofs.YtefcjccapekjdaaDoor.Rf
