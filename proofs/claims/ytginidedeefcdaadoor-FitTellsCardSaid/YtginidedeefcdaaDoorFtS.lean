/-
  FIT: bounds, kinds, stamps of clocks' times, a year's ends: walked.
-/
import Derived.Test.YtginidedeefcdaaDoorFtL
import Derived.Test.YtginidedeefcdaaDoorFtN
import Derived.StillTailTactics
namespace Go.Proofs.YtginidedeefcdaaDoor.Ft
open Go.ChangeShapes Go.WideShapes Go.ChangeAt Go.RowKit
open Go.Proofs.YtginidedeefcdaaDoor
open Go.Proofs.YtginidedeefcdaaDoor.Wd
open Go.Proofs.YtginidedeefcdaaDoor.Rec
open Go.Proofs.YtginidedeefcdaaDoor.Yr
open Go.Proofs.YtginidedeefcdaaDoor.Tb
open Go.Proofs.YtginidedeefcdaaDoor.Clk (yrV yrE)
open Go.Proofs.YtginidedeefcdaaDoor.Civ (Tab Inv dateE)
set_option linter.unusedVariables false
def aggT : TypeDesc → Bool
  | .struct _ => true
  | .array _ _ => true
  | _ => false
theorem run_row {P : Program} (w : World) (g : Nat) (t ty : TypeId) (cs : Array Value) (d : TypeDesc) (hg : w.heap[g]? = some (.cells cs t (0, 0)))
    (hu : P.underlying ty = some d) (hd : aggT d = true) (hi : (P.info? ty).map (·.size) = some cs.size) :
    (loadVar ty ⟨g, 0, none⟩).run P w = .ok (.agg cs) w := run_loadVar_row w g t ty cs (0, 0) d hg hu (by cases d <;> first | rfl | (unfold aggT at hd; exact hd)) hi
/-- what a function answers whose first result is a struct in a block -/
theorem res_ct {fn : Func} {p q : Tmp} {T : TypeId} (h : fn.results = #[.cell p T, .tmp q]) (tmps : Array Value) (w : World) (g : Nat) (t : TypeId) (cs : Array Value) (v : Value) (d : TypeDesc)
    (hp : tmps.getD p undef = .pointer (some ⟨g, 0, none⟩)) (hq : tmps.getD q undef = v) (hg : Blk w g t cs)
    (hu : Tryd.prog.underlying T = some d) (hd : aggT d = true) (hi : (Tryd.prog.info? T).map (·.size) = some cs.size) :
    (results fn tmps).run Tryd.prog w = .ok (.tuple #[.agg cs, v]) w := by
  have hp' : tmps[p]?.getD undef = .pointer (some ⟨g, 0, none⟩) := by simpa using hp
  have hq' : tmps[q]?.getD undef = v := by simpa using hq
  simp [results, h, hp', hq', asAddr, run_row w g t T cs d hg hu hd hi]
theorem res_cct {fn : Func} {p p2 q : Tmp} {T T2 : TypeId} (h : fn.results = #[.cell p T, .cell p2 T2, .tmp q]) (tmps : Array Value) (w : World) (g g2 : Nat) (t t2 : TypeId) (cs cs2 : Array Value) (v : Value) (d d2 : TypeDesc)
    (hp : tmps.getD p undef = .pointer (some ⟨g, 0, none⟩)) (hp2 : tmps.getD p2 undef = .pointer (some ⟨g2, 0, none⟩)) (hq : tmps.getD q undef = v) (hg : Blk w g t cs) (hg2 : Blk w g2 t2 cs2)
    (hu : Tryd.prog.underlying T = some d) (hd : aggT d = true) (hi : (Tryd.prog.info? T).map (·.size) = some cs.size)
    (hu2 : Tryd.prog.underlying T2 = some d2) (hd2 : aggT d2 = true) (hi2 : (Tryd.prog.info? T2).map (·.size) = some cs2.size) :
    (results fn tmps).run Tryd.prog w = .ok (.tuple #[.agg cs, .agg cs2, v]) w := by
  have hp' : tmps[p]?.getD undef = .pointer (some ⟨g, 0, none⟩) := by simpa using hp
  have hp2' : tmps[p2]?.getD undef = .pointer (some ⟨g2, 0, none⟩) := by simpa using hp2
  have hq' : tmps[q]?.getD undef = v := by simpa using hq
  simp [results, h, hp', hp2', hq', asAddr, run_row w g t T cs d hg hu hd hi, run_row w g2 t2 T2 cs2 d2 hg2 hu2 hd2 hi2]
theorem res_ctt {fn : Func} {p q q2 : Tmp} {T : TypeId} (h : fn.results = #[.cell p T, .tmp q, .tmp q2]) (tmps : Array Value) (w : World) (g : Nat) (t : TypeId) (cs : Array Value) (v v2 : Value) (d : TypeDesc)
    (hp : tmps.getD p undef = .pointer (some ⟨g, 0, none⟩)) (hq : tmps.getD q undef = v) (hq2 : tmps.getD q2 undef = v2) (hg : Blk w g t cs)
    (hu : Tryd.prog.underlying T = some d) (hd : aggT d = true) (hi : (Tryd.prog.info? T).map (·.size) = some cs.size) :
    (results fn tmps).run Tryd.prog w = .ok (.tuple #[.agg cs, v, v2]) w := by
  have hp' : tmps[p]?.getD undef = .pointer (some ⟨g, 0, none⟩) := by simpa using hp
  have hq' : tmps[q]?.getD undef = v := by simpa using hq
  have hq2' : tmps[q2]?.getD undef = v2 := by simpa using hq2
  simp [results, h, hp', hq', hq2', asAddr, run_row w g t T cs d hg hu hd hi]
set_option maxHeartbeats 1600000 in
theorem kind_any (a : Sp) (w : World) :
    Calls Tryd.prog 77 #[a.V] w fun e w' => e = .returned (.int .i64 (if a.d = true then 1 else 0)) ∧ Below w.heap.size w w' := by
  obtain ⟨f, o, d⟩ := a
  have hb : Below w.heap.size w (w.alloc (.cells #[.int .i64 f, .int .i64 o, .bool d] 40)) := (Below.refl _ _).alloc (Nat.le_refl _) _
  cases d
  · go_enter Tryd.func77, Tryd.ntmps77
    go_wp2
    go_ret
    exact ⟨rfl, hb⟩
  · go_enter Tryd.func77, Tryd.ntmps77
    go_wp2
    go_ret
    exact ⟨rfl, hb⟩
def inY (Y : Int) : Bool := decide (1601 ≤ Y ∧ Y ≤ 9999)
def bdE (Y : Int) : Int := if inY Y = true then 0 else 1
def bdF (Y : Int) : Int := if inY Y = true then begY Y else 0
def bdT (Y : Int) : Int := if inY Y = true then begY (Y + 1) else 0
theorem bounds_yes (Y : Int) (w : World) (h1 : 1601 ≤ Y) (h2 : Y ≤ 9999) :
    Calls Tryd.prog 41 #[.int .i64 Y] w fun e w' => e = .returned (.tuple #[.int .i64 (begY Y), .int .i64 (begY (Y + 1)), .int .i64 0]) ∧ w = w' := by
  have hb1 := fun w => begin_any Y w (by omega) (by omega)
  have hb2 := fun w => begin_any (Y + 1) w (by omega) (by omega)
  have h3 : ¬ Y < 1601 := by omega
  have h4 : ¬ 9999 < Y := by omega
  go_enter Tryd.func41, Tryd.ntmps41
  go_wp2_with fail
  refine (hb1 _).mono ?_; rintro e wq ⟨rfl, rfl⟩
  go_wp2_with fail
  refine (hb2 _).mono ?_; rintro e wq ⟨rfl, rfl⟩
  go_wp2_with fail
  go_ret3
  exact ⟨rfl, rfl⟩
theorem bounds_no (Y : Int) (w : World) (h : inY Y = false) :
    Calls Tryd.prog 41 #[.int .i64 Y] w fun e w' => e = .returned (.tuple #[.int .i64 0, .int .i64 0, .int .i64 1]) ∧ w = w' := by
  have h' : Y < 1601 ∨ (¬ Y < 1601 ∧ 9999 < Y) := by unfold inY at h; have := of_decide_eq_false h; omega
  clear h
  rcases h' with h1 | ⟨h1, h2⟩
  all_goals
    go_enter Tryd.func41, Tryd.ntmps41
    go_wp2_with fail
    go_ret3
    exact ⟨rfl, rfl⟩
abbrev z8 : Array Value := #[.int .u16 0, .int .u16 0, .int .u16 0, .int .u16 0, .int .u16 0, .int .u16 0, .int .u16 0, .int .u16 0]
theorem fs_no {c : Int} (h : fsOk c = false) : fsV c = St.nil ∧ fsE c = 1 := by unfold fsV fsE; rw [h]; exact ⟨rfl, rfl⟩
theorem fs_yes {c : Int} (h : fsOk c = true) : fsV c = fsS c ∧ fsE c = 0 := by unfold fsV fsE; rw [h]; exact ⟨rfl, rfl⟩
set_option maxRecDepth 20000 in
set_option maxHeartbeats 1600000 in
theorem stamp_no (c : Int) (w : World) (h1 : -9223372036854775808 ≤ c) (h2 : c ≤ 9223372036854775807) (h : fsOk c = false) :
    Calls Tryd.prog 15 #[.int .i64 c] w fun e w' => e = .returned (.tuple #[.agg (sA (fsV c)), .int .i64 (fsE c)]) ∧ Below w.heap.size w w' := by
  obtain ⟨v1, v2⟩ := fs_no h
  rw [v1, v2]
  have x0 := Blk.new w 26 z8
  have b0 : Below w.heap.size w (w.alloc (.cells z8 26)) := (Below.refl _ _).alloc (Nat.le_refl _) _
  have hy := fun w => Clk.year_any c w h1 h2
  have hc : yrE c = 1 ∨ (yrE c = 0 ∧ yrV c < 1601) := by
    have := of_decide_eq_false h
    rcases yr_01 c with q | q
    · right; exact ⟨q, by omega⟩
    · exact .inl q.1
  clear v1 v2 h
  unfold z8 at x0 b0
  rcases hc with q | ⟨q, q2⟩
  · rw [q] at hy; clear q
    generalize yrV c = y at *
    go_enter Tryd.func15, Tryd.ntmps15
    go_wp2_with fail
    refine (hy _).mono ?_; rintro e w1 ⟨rfl, hb1⟩
    have x1 := x0.below hb1 x0.lt
    have B1 := b0.trans (hb1.mono b0.size)
    go_wp2_with (refine wpList_store_g rfl 26 _ _ rfl rfl _ 0 z8 z8 rfl rfl _ _ x1 (by show 0 + 8 ≤ 8; decide) (by kernel_rfl) (by kernel_rfl) (by kernel_rfl) ?_)
    exact bodyPost_ret (res_ct rfl _ _ _ _ _ _ _ rfl rfl (Blk.row x1 _) Tryd.underlying26 rfl (by kernel_rfl)) rfl ⟨rfl, below_row B1 (Nat.le_refl _) _⟩
  · rw [q] at hy; clear q
    generalize yrV c = y at *
    go_enter Tryd.func15, Tryd.ntmps15
    go_wp2_with fail
    refine (hy _).mono ?_; rintro e w1 ⟨rfl, hb1⟩
    have x1 := x0.below hb1 x0.lt
    have B1 := b0.trans (hb1.mono b0.size)
    go_wp2_with (refine wpList_store_g rfl 26 _ _ rfl rfl _ 0 z8 z8 rfl rfl _ _ x1 (by show 0 + 8 ≤ 8; decide) (by kernel_rfl) (by kernel_rfl) (by kernel_rfl) ?_)
    exact bodyPost_ret (res_ct rfl _ _ _ _ _ _ _ rfl rfl (Blk.row x1 _) Tryd.underlying26 rfl (by kernel_rfl)) rfl ⟨rfl, below_row B1 (Nat.le_refl _) _⟩
set_option maxRecDepth 20000 in
set_option maxHeartbeats 3200000 in
theorem stamp_five (c N S Y M D V ml : Int) (w : World) (hT : Tab w)
    (hy : ∀ w, Calls Tryd.prog 20 #[.int .i64 c] w fun e w' => e = .returned (.tuple #[.int .i64 Y, .int .i64 0]) ∧ Below w.heap.size w w')
    (hs : ∀ w, Calls Tryd.prog 49 #[.int .i64 c] w fun e w' => e = .returned (.tuple #[.int .i64 N, .int .i64 S]) ∧ w = w')
    (ho : ∀ w, Calls Tryd.prog 50 #[.int .i64 N] w fun e w' => e = .returned (dateE Y M D 0) ∧ Below w.heap.size w w')
    (hl : ∀ w, Tab w → Calls Tryd.prog 27 #[.int .i64 Y, .int .i64 M] w fun e w' => e = .returned (.tuple #[.int .i64 ml, .int .i64 0]) ∧ w = w')
    (hv : ∀ w, Calls Tryd.prog 51 #[.int .i64 N] w fun e w' => e = .returned (.int .i64 V) ∧ w = w')
    (y1 : ¬ Y < 1601) (m1 : 1 ≤ M) (m2 : M ≤ 12) (d1 : 1 ≤ D) (d2 : D ≤ ml) (l1 : 28 ≤ ml) (l2 : ml ≤ 31) (v1 : 0 ≤ V) (v2 : V ≤ 6) (s1 : 0 ≤ S) (s2 : S < 86400) (hw : ml - 7 < D) :
    Calls Tryd.prog 15 #[.int .i64 c] w fun e w' => e = .returned (.tuple #[.agg #[.int .u16 0, .int .u16 M, .int .u16 V, .int .u16 5, .int .u16 (S / 3600), .int .u16 (S / 60 % 60), .int .u16 (S % 60), .int .u16 0], .int .i64 0]) ∧ Below w.heap.size w w' := by
  have x0 := Blk.new w 26 z8
  have b0 : Below w.heap.size w (w.alloc (.cells z8 26)) := (Below.refl _ _).alloc (Nat.le_refl _) _
  unfold z8 at x0 b0
  have c1 : 0 ≤ (D - 1) / 7 ∧ (D - 1) / 7 ≤ 4 := by omega
  go_enter Tryd.func15, Tryd.ntmps15
  go_wp2_with fail
  refine (hy _).mono ?_; rintro e w1 ⟨rfl, hb1⟩
  have x1 := x0.below hb1 x0.lt
  have B1 := b0.trans (hb1.mono b0.size)
  go_wp2_with fail
  refine (hs _).mono ?_; rintro e wq ⟨rfl, rfl⟩
  go_wp2_with fail
  refine (ho _).mono ?_; rintro e w2 ⟨rfl, hb2⟩
  have x2 := x1.below hb2 x1.lt
  have B2 := B1.trans (hb2.mono B1.size)
  have x3 := x2.alloc (.cells #[.int .i64 Y, .int .i64 M, .int .i64 D] 90)
  have B3 := B2.alloc B2.size (.cells #[.int .i64 Y, .int .i64 M, .int .i64 D] 90)
  have y3 := Blk.new w2 90 #[.int .i64 Y, .int .i64 M, .int .i64 D]
  have k1 : (w2.alloc (.cells #[.int .i64 Y, .int .i64 M, .int .i64 D] 90)).cell? ⟨w2.heap.size, 0, none⟩ = some (.int .i64 Y) := y3.cell 0
  have k2 : (w2.alloc (.cells #[.int .i64 Y, .int .i64 M, .int .i64 D] 90)).cell? ⟨w2.heap.size, 1, none⟩ = some (.int .i64 M) := y3.cell 1
  have k3 : (w2.alloc (.cells #[.int .i64 Y, .int .i64 M, .int .i64 D] 90)).cell? ⟨w2.heap.size, 2, none⟩ = some (.int .i64 D) := y3.cell 2
  have T3 := hT.below hT.1 B3
  go_wp2_with fail
  generalize w2.alloc (.cells #[.int .i64 Y, .int .i64 M, .int .i64 D] 90) = W at *
  generalize w2.heap.size = g at *
  refine (hl _ T3).mono ?_; rintro e wq ⟨rfl, rfl⟩
  go_wp2_with fail
  have a1 : IntKind.u16.wrap M = M := by simp [IntKind.wrap, IntKind.bits, IntKind.signed]; omega
  have a2 : IntKind.u16.wrap V = V := by simp [IntKind.wrap, IntKind.bits, IntKind.signed]; omega
  have e0 : S.tdiv 3600 = S / 3600 := Int.tdiv_eq_ediv_of_nonneg (by omega)
  have e1 : S.tdiv 60 = S / 60 := Int.tdiv_eq_ediv_of_nonneg (by omega)
  have e2 : S.tmod 60 = S % 60 := Int.tmod_eq_emod_of_nonneg (by omega)
  have e3 : (S / 60).tmod 60 = S / 60 % 60 := Int.tmod_eq_emod_of_nonneg (by omega)
  have n0 : IntKind.i64.wrap (S / 3600) = S / 3600 := by simp [IntKind.wrap, IntKind.bits, IntKind.signed]; omega
  have n1 : IntKind.i64.wrap (S / 60) = S / 60 := by simp [IntKind.wrap, IntKind.bits, IntKind.signed]; omega
  have g0 : IntKind.u16.wrap (S / 3600) = S / 3600 := by simp [IntKind.wrap, IntKind.bits, IntKind.signed]; omega
  have g1 : IntKind.u16.wrap (S / 60 % 60) = S / 60 % 60 := by simp [IntKind.wrap, IntKind.bits, IntKind.signed]; omega
  have g2 : IntKind.u16.wrap (S % 60) = S % 60 := by simp [IntKind.wrap, IntKind.bits, IntKind.signed]; omega
  go_still_tail 19, (by kernel_rfl)
  repeat (first | still_call ((hv _).mono fun _ _ q => ⟨q.1, q.2.symm⟩) | still_step)
  refine wpStill_nil ?_
  change wpList _ _ _ _ _ W.drew
  have x4 := Blk.drew x3
  go_wp2_with (refine wpList_store_g rfl 26 _ _ rfl rfl _ 0 #[.int .u16 0, .int .u16 M, .int .u16 V, .int .u16 5, .int .u16 (S / 3600), .int .u16 (S / 60 % 60), .int .u16 (S % 60), .int .u16 0] #[.int .u16 0, .int .u16 M, .int .u16 V, .int .u16 5, .int .u16 (S / 3600), .int .u16 (S / 60 % 60), .int .u16 (S % 60), .int .u16 0] rfl rfl _ _ x4 (by show 0 + 8 ≤ 8; decide) (by kernel_rfl) (by kernel_rfl) (by kernel_rfl) ?_)
  exact bodyPost_ret (res_ct rfl _ _ _ _ #[.int .u16 0, .int .u16 M, .int .u16 V, .int .u16 5, .int .u16 (S / 3600), .int .u16 (S / 60 % 60), .int .u16 (S % 60), .int .u16 0] _ _ rfl rfl (Blk.row x4 _) Tryd.underlying26 rfl (by kernel_rfl)) rfl ⟨rfl, below_row B3.drew (Nat.le_refl _) _⟩
set_option maxRecDepth 20000 in
set_option maxHeartbeats 3200000 in
theorem stamp_less (c N S Y M D V ml : Int) (w : World) (hT : Tab w)
    (hy : ∀ w, Calls Tryd.prog 20 #[.int .i64 c] w fun e w' => e = .returned (.tuple #[.int .i64 Y, .int .i64 0]) ∧ Below w.heap.size w w')
    (hs : ∀ w, Calls Tryd.prog 49 #[.int .i64 c] w fun e w' => e = .returned (.tuple #[.int .i64 N, .int .i64 S]) ∧ w = w')
    (ho : ∀ w, Calls Tryd.prog 50 #[.int .i64 N] w fun e w' => e = .returned (dateE Y M D 0) ∧ Below w.heap.size w w')
    (hl : ∀ w, Tab w → Calls Tryd.prog 27 #[.int .i64 Y, .int .i64 M] w fun e w' => e = .returned (.tuple #[.int .i64 ml, .int .i64 0]) ∧ w = w')
    (hv : ∀ w, Calls Tryd.prog 51 #[.int .i64 N] w fun e w' => e = .returned (.int .i64 V) ∧ w = w')
    (y1 : ¬ Y < 1601) (m1 : 1 ≤ M) (m2 : M ≤ 12) (d1 : 1 ≤ D) (d2 : D ≤ ml) (l1 : 28 ≤ ml) (l2 : ml ≤ 31) (v1 : 0 ≤ V) (v2 : V ≤ 6) (s1 : 0 ≤ S) (s2 : S < 86400) (hw : ¬ ml - 7 < D) :
    Calls Tryd.prog 15 #[.int .i64 c] w fun e w' => e = .returned (.tuple #[.agg #[.int .u16 0, .int .u16 M, .int .u16 V, .int .u16 ((D - 1) / 7 + 1), .int .u16 (S / 3600), .int .u16 (S / 60 % 60), .int .u16 (S % 60), .int .u16 0], .int .i64 0]) ∧ Below w.heap.size w w' := by
  have x0 := Blk.new w 26 z8
  have b0 : Below w.heap.size w (w.alloc (.cells z8 26)) := (Below.refl _ _).alloc (Nat.le_refl _) _
  unfold z8 at x0 b0
  have c1 : 0 ≤ (D - 1) / 7 ∧ (D - 1) / 7 ≤ 4 := by omega
  go_enter Tryd.func15, Tryd.ntmps15
  go_wp2_with fail
  refine (hy _).mono ?_; rintro e w1 ⟨rfl, hb1⟩
  have x1 := x0.below hb1 x0.lt
  have B1 := b0.trans (hb1.mono b0.size)
  go_wp2_with fail
  refine (hs _).mono ?_; rintro e wq ⟨rfl, rfl⟩
  go_wp2_with fail
  refine (ho _).mono ?_; rintro e w2 ⟨rfl, hb2⟩
  have x2 := x1.below hb2 x1.lt
  have B2 := B1.trans (hb2.mono B1.size)
  have x3 := x2.alloc (.cells #[.int .i64 Y, .int .i64 M, .int .i64 D] 90)
  have B3 := B2.alloc B2.size (.cells #[.int .i64 Y, .int .i64 M, .int .i64 D] 90)
  have y3 := Blk.new w2 90 #[.int .i64 Y, .int .i64 M, .int .i64 D]
  have k1 : (w2.alloc (.cells #[.int .i64 Y, .int .i64 M, .int .i64 D] 90)).cell? ⟨w2.heap.size, 0, none⟩ = some (.int .i64 Y) := y3.cell 0
  have k2 : (w2.alloc (.cells #[.int .i64 Y, .int .i64 M, .int .i64 D] 90)).cell? ⟨w2.heap.size, 1, none⟩ = some (.int .i64 M) := y3.cell 1
  have k3 : (w2.alloc (.cells #[.int .i64 Y, .int .i64 M, .int .i64 D] 90)).cell? ⟨w2.heap.size, 2, none⟩ = some (.int .i64 D) := y3.cell 2
  have T3 := hT.below hT.1 B3
  go_wp2_with fail
  generalize w2.alloc (.cells #[.int .i64 Y, .int .i64 M, .int .i64 D] 90) = W at *
  generalize w2.heap.size = g at *
  refine (hl _ T3).mono ?_; rintro e wq ⟨rfl, rfl⟩
  go_wp2_with fail
  have a1 : IntKind.u16.wrap M = M := by simp [IntKind.wrap, IntKind.bits, IntKind.signed]; omega
  have a2 : IntKind.u16.wrap V = V := by simp [IntKind.wrap, IntKind.bits, IntKind.signed]; omega
  have e0 : S.tdiv 3600 = S / 3600 := Int.tdiv_eq_ediv_of_nonneg (by omega)
  have e1 : S.tdiv 60 = S / 60 := Int.tdiv_eq_ediv_of_nonneg (by omega)
  have e2 : S.tmod 60 = S % 60 := Int.tmod_eq_emod_of_nonneg (by omega)
  have e3 : (S / 60).tmod 60 = S / 60 % 60 := Int.tmod_eq_emod_of_nonneg (by omega)
  have n0 : IntKind.i64.wrap (S / 3600) = S / 3600 := by simp [IntKind.wrap, IntKind.bits, IntKind.signed]; omega
  have n1 : IntKind.i64.wrap (S / 60) = S / 60 := by simp [IntKind.wrap, IntKind.bits, IntKind.signed]; omega
  have g0 : IntKind.u16.wrap (S / 3600) = S / 3600 := by simp [IntKind.wrap, IntKind.bits, IntKind.signed]; omega
  have g1 : IntKind.u16.wrap (S / 60 % 60) = S / 60 % 60 := by simp [IntKind.wrap, IntKind.bits, IntKind.signed]; omega
  have g2 : IntKind.u16.wrap (S % 60) = S % 60 := by simp [IntKind.wrap, IntKind.bits, IntKind.signed]; omega
  have p1 : IntKind.u16.wrap ((D - 1) / 7 + 1) = (D - 1) / 7 + 1 := by simp [IntKind.wrap, IntKind.bits, IntKind.signed]; omega
  go_still_tail 19, (by kernel_rfl)
  repeat (first | still_call ((hv _).mono fun _ _ q => ⟨q.1, q.2.symm⟩) | still_step)
  refine wpStill_nil ?_
  change wpList _ _ _ _ _ W.drew
  have x4 := Blk.drew x3
  go_wp2_with (refine wpList_store_g rfl 26 _ _ rfl rfl _ 0 #[.int .u16 0, .int .u16 M, .int .u16 V, .int .u16 ((D - 1) / 7 + 1), .int .u16 (S / 3600), .int .u16 (S / 60 % 60), .int .u16 (S % 60), .int .u16 0] #[.int .u16 0, .int .u16 M, .int .u16 V, .int .u16 ((D - 1) / 7 + 1), .int .u16 (S / 3600), .int .u16 (S / 60 % 60), .int .u16 (S % 60), .int .u16 0] rfl rfl _ _ x4 (by show 0 + 8 ≤ 8; decide) (by kernel_rfl) (by kernel_rfl) (by kernel_rfl) ?_)
  exact bodyPost_ret (res_ct rfl _ _ _ _ #[.int .u16 0, .int .u16 M, .int .u16 V, .int .u16 ((D - 1) / 7 + 1), .int .u16 (S / 3600), .int .u16 (S / 60 % 60), .int .u16 (S % 60), .int .u16 0] _ _ rfl rfl (Blk.row x4 _) Tryd.underlying26 rfl (by kernel_rfl)) rfl ⟨rfl, below_row B3.drew (Nat.le_refl _) _⟩
theorem stamp_any (c : Int) (w : World) (hT : Tab w) (h1 : -9223372036854775808 ≤ c) (h2 : c ≤ 9223372036854775807) :
    Calls Tryd.prog 15 #[.int .i64 c] w fun e w' => e = .returned (.tuple #[.agg (sA (fsV c)), .int .i64 (fsE c)]) ∧ Below w.heap.size w w' := by
  cases h : fsOk c with
  | false => exact stamp_no c w h1 h2 h
  | true =>
    obtain ⟨v1, v2⟩ := fs_yes h
    rw [v1, v2]
    have hq := of_decide_eq_true h
    obtain ⟨q1, q2⟩ := hq
    have hy := fun w => Clk.year_any c w h1 h2
    have hs := fun w => Clk.split_any c w h1 h2
    have ho := fun w => Civ.of_any (c / 86400) w
    have hE : Cal.ofE (c / 86400) = 0 := q1
    have hV : yrV c = Cal.ofYV (c / 86400) := rfl
    have hr := yr_bd q1
    have hn : -719162 ≤ c / 86400 ∧ c / 86400 ≤ 2932896 := by omega
    have hokN := (Cal.okN_iff (c / 86400)).2 hn
    have hok := Cal.day_ok _ hn.1 hn.2
    have e1 : Cal.ofYV (c / 86400) = Cal.dayY (c / 86400) := by unfold Cal.ofYV; rw [if_pos hokN]
    have e2 : Cal.ofMV (c / 86400) = Cal.dayM (c / 86400) := by unfold Cal.ofMV; rw [if_pos hokN]
    have e3 : Cal.ofDV (c / 86400) = Cal.dayD (c / 86400) := by unfold Cal.ofDV; rw [if_pos hokN]
    rw [← e1, ← e2, ← e3] at hok
    have hd := (Cal.okD_iff _ _ _).1 hok
    have hl := fun w hT => Civ.len_any (Cal.ofYV (c / 86400)) (Cal.ofMV (c / 86400)) w hT
    obtain ⟨l1, l2⟩ := Civ.len_of ((Cal.okYM_iff _ _).2 ⟨hd.1, hd.2.1, hd.2.2.1, hd.2.2.2.1⟩)
    simp only [l1, l2] at hl
    simp only [q1, hV] at hy
    simp only [hE] at ho
    have hml := Cal.mlen_bd (Cal.ofYV (c / 86400)) (Cal.ofMV (c / 86400))
    have hwd := Civ.wday_bd (c / 86400)
    by_cases hw : Cal.mlen (Cal.ofYV (c / 86400)) (Cal.ofMV (c / 86400)) - 7 < Cal.ofDV (c / 86400)
    · have e : sA (fsS c) = #[.int .u16 0, .int .u16 (Cal.ofMV (c / 86400)), .int .u16 (Cal.wday (c / 86400)), .int .u16 5, .int .u16 (c % 86400 / 3600), .int .u16 (c % 86400 / 60 % 60), .int .u16 (c % 86400 % 60), .int .u16 0] := by
        unfold fsS; rw [if_pos hw]
      rw [e]
      exact stamp_five c _ _ _ _ _ _ _ w hT hy hs ho hl (fun w => Civ.wd_any _ w) (by omega) hd.2.2.1 hd.2.2.2.1 hd.2.2.2.2.1 hd.2.2.2.2.2 hml.1 hml.2 hwd.1 hwd.2 (by omega) (by omega) hw
    · have e : sA (fsS c) = #[.int .u16 0, .int .u16 (Cal.ofMV (c / 86400)), .int .u16 (Cal.wday (c / 86400)), .int .u16 ((Cal.ofDV (c / 86400) - 1) / 7 + 1), .int .u16 (c % 86400 / 3600), .int .u16 (c % 86400 / 60 % 60), .int .u16 (c % 86400 % 60), .int .u16 0] := by
        unfold fsS; rw [if_neg hw]
      rw [e]
      exact stamp_less c _ _ _ _ _ _ _ w hT hy hs ho hl (fun w => Civ.wd_any _ w) (by omega) hd.2.2.1 hd.2.2.2.1 hd.2.2.2.2.1 hd.2.2.2.2.2 hml.1 hml.2 hwd.1 hwd.2 (by omega) (by omega) hw
set_option maxRecDepth 20000 in
set_option maxHeartbeats 6400000 in
theorem ends_of (Y F T : Int) (p q : St) (w : World) (hT : Tab w)
    (hb : ∀ w, Calls Tryd.prog 41 #[.int .i64 Y] w fun e w' => e = .returned (.tuple #[.int .i64 F, .int .i64 T, .int .i64 0]) ∧ w = w')
    (hp : ∀ w, Tab w → Calls Tryd.prog 15 #[.int .i64 F] w fun e w' => e = .returned (.tuple #[.agg (sA p), .int .i64 0]) ∧ Below w.heap.size w w')
    (hq : ∀ w, Tab w → Calls Tryd.prog 15 #[.int .i64 (T - 1)] w fun e w' => e = .returned (.tuple #[.agg (sA q), .int .i64 0]) ∧ Below w.heap.size w w')
    (t1 : -62135596800 ≤ T) (t2 : T ≤ 253402300800) :
    Calls Tryd.prog 17 #[.int .i64 Y] w fun e w' => e = .returned (.tuple #[.agg (sA p), .agg (sA { q with u := 999 }), .int .i64 0]) ∧ Below w.heap.size w w' := by
  have i0 := Inv.start hT
  have i1 := (i0.alloc (.cells z8 26)).alloc (.cells z8 26)
  have x1 := (Blk.new w 26 z8).alloc (.cells z8 26)
  have y1 : Blk ((w.alloc (.cells z8 26)).alloc (.cells z8 26)) (w.heap.size + 1) 26 z8 := blk_at _ _ _ (sz1 w _ rfl)
  unfold z8 at i1 x1 y1
  unfold sA at hp hq ⊢
  go_enter Tryd.func17, Tryd.ntmps17
  go_wp2_with fail
  refine (hb _).mono ?_; rintro e wq ⟨rfl, rfl⟩
  go_wp2_with fail
  refine (hp _ i1.1).mono ?_; rintro e w1 ⟨rfl, hb1⟩
  have i2 := i1.call hb1
  have x2 := x1.below hb1 x1.lt
  have y2 := y1.below hb1 y1.lt
  have zg1 : w.heap.size + 1 < w1.heap.size := y2.lt
  have i3 := i2.alloc (.cells #[.int .u16 p.y, .int .u16 p.m, .int .u16 p.v, .int .u16 p.d, .int .u16 p.h, .int .u16 p.i, .int .u16 p.s, .int .u16 p.u] 26)
  have x3 := x2.alloc (.cells #[.int .u16 p.y, .int .u16 p.m, .int .u16 p.v, .int .u16 p.d, .int .u16 p.h, .int .u16 p.i, .int .u16 p.s, .int .u16 p.u] 26)
  have y3 := y2.alloc (.cells #[.int .u16 p.y, .int .u16 p.m, .int .u16 p.v, .int .u16 p.d, .int .u16 p.h, .int .u16 p.i, .int .u16 p.s, .int .u16 p.u] 26)
  have a3 := Blk.new w1 26 #[.int .u16 p.y, .int .u16 p.m, .int .u16 p.v, .int .u16 p.d, .int .u16 p.h, .int .u16 p.i, .int .u16 p.s, .int .u16 p.u]
  clear i0 i1 x1 y1 hb1 i2 x2 y2
  go_wp2_with (first | (go_at_call 15; refine (hq _ i3.1).mono ?_; rintro e w2 ⟨rfl, hb2⟩; refine Hid.out ?_) | refine wpList_store_new rfl 26 _ _ rfl rfl w1.heap.size #[.int .u16 p.y, .int .u16 p.m, .int .u16 p.v, .int .u16 p.d, .int .u16 p.h, .int .u16 p.i, .int .u16 p.s, .int .u16 p.u] rfl rfl _ #[.int .u16 0, .int .u16 0, .int .u16 0, .int .u16 0, .int .u16 0, .int .u16 0, .int .u16 0, .int .u16 0] w1 rfl rfl rfl (by kernel_rfl) (by kernel_rfl) ?_)
  refine Lib.hid ?_
  have i4 := i3.call hb2
  have x4 := x3.below hb2 x3.lt
  have y4 := y3.below hb2 y3.lt
  have a4 := a3.below hb2 a3.lt
  have zg2 : w1.heap.size < w2.heap.size := a4.lt
  have i6 := i4.alloc (.cells #[.int .u16 q.y, .int .u16 q.m, .int .u16 q.v, .int .u16 q.d, .int .u16 q.h, .int .u16 q.i, .int .u16 q.s, .int .u16 999] 26)
  have x6 := x4.alloc (.cells #[.int .u16 q.y, .int .u16 q.m, .int .u16 q.v, .int .u16 q.d, .int .u16 q.h, .int .u16 q.i, .int .u16 q.s, .int .u16 999] 26)
  have y6 := y4.alloc (.cells #[.int .u16 q.y, .int .u16 q.m, .int .u16 q.v, .int .u16 q.d, .int .u16 q.h, .int .u16 q.i, .int .u16 q.s, .int .u16 999] 26)
  have a6 := a4.alloc (.cells #[.int .u16 q.y, .int .u16 q.m, .int .u16 q.v, .int .u16 q.d, .int .u16 q.h, .int .u16 q.i, .int .u16 q.s, .int .u16 999] 26)
  have b6 := Blk.new w2 26 #[.int .u16 q.y, .int .u16 q.m, .int .u16 q.v, .int .u16 q.d, .int .u16 q.h, .int .u16 q.i, .int .u16 q.s, .int .u16 999]
  clear i3 x3 y3 a3 hb2 i4 x4 y4 a4
  go_upto_region 11 with (refine wpList_store_new rfl 26 _ _ rfl rfl w2.heap.size #[.int .u16 q.y, .int .u16 q.m, .int .u16 q.v, .int .u16 q.d, .int .u16 q.h, .int .u16 q.i, .int .u16 q.s, .int .u16 q.u] rfl rfl _ #[.int .u16 0, .int .u16 0, .int .u16 0, .int .u16 0, .int .u16 0, .int .u16 0, .int .u16 0, .int .u16 0] w2 rfl rfl rfl (by kernel_rfl) (by kernel_rfl) ?_)
  generalize w2.alloc (.cells #[.int .u16 q.y, .int .u16 q.m, .int .u16 q.v, .int .u16 q.d, .int .u16 q.h, .int .u16 q.i, .int .u16 q.s, .int .u16 999] 26) = W6 at *
  generalize w2.heap.size = g2 at *
  generalize w1.heap.size = g1 at *
  have a60 : W6.cell? ⟨g1, 0, none⟩ = some (.int .u16 p.y) := a6.cell 0
  have a61 : W6.cell? ⟨g1, 1, none⟩ = some (.int .u16 p.m) := a6.cell 1
  have a62 : W6.cell? ⟨g1, 2, none⟩ = some (.int .u16 p.v) := a6.cell 2
  have a63 : W6.cell? ⟨g1, 3, none⟩ = some (.int .u16 p.d) := a6.cell 3
  have a64 : W6.cell? ⟨g1, 4, none⟩ = some (.int .u16 p.h) := a6.cell 4
  have a65 : W6.cell? ⟨g1, 5, none⟩ = some (.int .u16 p.i) := a6.cell 5
  have a66 : W6.cell? ⟨g1, 6, none⟩ = some (.int .u16 p.s) := a6.cell 6
  have a67 : W6.cell? ⟨g1, 7, none⟩ = some (.int .u16 p.u) := a6.cell 7
  have b60 : W6.cell? ⟨g2, 0, none⟩ = some (.int .u16 q.y) := b6.cell 0
  have b61 : W6.cell? ⟨g2, 1, none⟩ = some (.int .u16 q.m) := b6.cell 1
  have b62 : W6.cell? ⟨g2, 2, none⟩ = some (.int .u16 q.v) := b6.cell 2
  have b63 : W6.cell? ⟨g2, 3, none⟩ = some (.int .u16 q.d) := b6.cell 3
  have b64 : W6.cell? ⟨g2, 4, none⟩ = some (.int .u16 q.h) := b6.cell 4
  have b65 : W6.cell? ⟨g2, 5, none⟩ = some (.int .u16 q.i) := b6.cell 5
  have b66 : W6.cell? ⟨g2, 6, none⟩ = some (.int .u16 q.s) := b6.cell 6
  have b67 : W6.cell? ⟨g2, 7, none⟩ = some (.int .u16 999) := b6.cell 7
  have fx0 := x6.frozen 0
  have cx0 := x6.cell 0
  have fy0 := y6.frozen 0
  have cy0 := y6.cell 0
  have fx1 := x6.frozen 1
  have cx1 := x6.cell 1
  have fy1 := y6.frozen 1
  have cy1 := y6.cell 1
  have fx2 := x6.frozen 2
  have cx2 := x6.cell 2
  have fy2 := y6.frozen 2
  have cy2 := y6.cell 2
  have fx3 := x6.frozen 3
  have cx3 := x6.cell 3
  have fy3 := y6.frozen 3
  have cy3 := y6.cell 3
  have fx4 := x6.frozen 4
  have cx4 := x6.cell 4
  have fy4 := y6.frozen 4
  have cy4 := y6.cell 4
  have fx5 := x6.frozen 5
  have cx5 := x6.cell 5
  have fy5 := y6.frozen 5
  have cy5 := y6.cell 5
  have fx6 := x6.frozen 6
  have cx6 := x6.cell 6
  have fy6 := y6.frozen 6
  have cy6 := y6.cell 6
  have fx7 := x6.frozen 7
  have cx7 := x6.cell 7
  have fy7 := y6.frozen 7
  have cy7 := y6.cell 7
  simp at cx0 cy0 cx1 cy1 cx2 cy2 cx3 cy3 cx4 cy4 cx5 cy5 cx6 cy6 cx7 cy7
  have hBel := Below.drew ((((((((((((((((i6.2.setCell (p := ⟨w.heap.size, 0, none⟩) (Nat.le_refl _) (.int .u16 p.y)).setCell (p := ⟨w.heap.size, 1, none⟩) (Nat.le_refl _) (.int .u16 p.m)).setCell (p := ⟨w.heap.size, 2, none⟩) (Nat.le_refl _) (.int .u16 p.v)).setCell (p := ⟨w.heap.size, 3, none⟩) (Nat.le_refl _) (.int .u16 p.d)).setCell (p := ⟨w.heap.size, 4, none⟩) (Nat.le_refl _) (.int .u16 p.h)).setCell (p := ⟨w.heap.size, 5, none⟩) (Nat.le_refl _) (.int .u16 p.i)).setCell (p := ⟨w.heap.size, 6, none⟩) (Nat.le_refl _) (.int .u16 p.s)).setCell (p := ⟨w.heap.size, 7, none⟩) (Nat.le_refl _) (.int .u16 p.u)).setCell (p := ⟨w.heap.size + 1, 0, none⟩) (Nat.le_succ _) (.int .u16 q.y)).setCell (p := ⟨w.heap.size + 1, 1, none⟩) (Nat.le_succ _) (.int .u16 q.m)).setCell (p := ⟨w.heap.size + 1, 2, none⟩) (Nat.le_succ _) (.int .u16 q.v)).setCell (p := ⟨w.heap.size + 1, 3, none⟩) (Nat.le_succ _) (.int .u16 q.d)).setCell (p := ⟨w.heap.size + 1, 4, none⟩) (Nat.le_succ _) (.int .u16 q.h)).setCell (p := ⟨w.heap.size + 1, 5, none⟩) (Nat.le_succ _) (.int .u16 q.i)).setCell (p := ⟨w.heap.size + 1, 6, none⟩) (Nat.le_succ _) (.int .u16 q.s)).setCell (p := ⟨w.heap.size + 1, 7, none⟩) (Nat.le_succ _) (.int .u16 999))
  have hX := Blk.drew ((((((((((((((((x6.set_ 0 (.int .u16 p.y)).set_ 1 (.int .u16 p.m)).set_ 2 (.int .u16 p.v)).set_ 3 (.int .u16 p.d)).set_ 4 (.int .u16 p.h)).set_ 5 (.int .u16 p.i)).set_ 6 (.int .u16 p.s)).set_ 7 (.int .u16 p.u)).far (p := ⟨w.heap.size + 1, 0, none⟩) (by show w.heap.size ≠ w.heap.size + 1; omega) (.int .u16 q.y)).far (p := ⟨w.heap.size + 1, 1, none⟩) (by show w.heap.size ≠ w.heap.size + 1; omega) (.int .u16 q.m)).far (p := ⟨w.heap.size + 1, 2, none⟩) (by show w.heap.size ≠ w.heap.size + 1; omega) (.int .u16 q.v)).far (p := ⟨w.heap.size + 1, 3, none⟩) (by show w.heap.size ≠ w.heap.size + 1; omega) (.int .u16 q.d)).far (p := ⟨w.heap.size + 1, 4, none⟩) (by show w.heap.size ≠ w.heap.size + 1; omega) (.int .u16 q.h)).far (p := ⟨w.heap.size + 1, 5, none⟩) (by show w.heap.size ≠ w.heap.size + 1; omega) (.int .u16 q.i)).far (p := ⟨w.heap.size + 1, 6, none⟩) (by show w.heap.size ≠ w.heap.size + 1; omega) (.int .u16 q.s)).far (p := ⟨w.heap.size + 1, 7, none⟩) (by show w.heap.size ≠ w.heap.size + 1; omega) (.int .u16 999))
  have hY := Blk.drew ((((((((((((((((y6.far (p := ⟨w.heap.size, 0, none⟩) (by show w.heap.size + 1 ≠ w.heap.size; omega) (.int .u16 p.y)).far (p := ⟨w.heap.size, 1, none⟩) (by show w.heap.size + 1 ≠ w.heap.size; omega) (.int .u16 p.m)).far (p := ⟨w.heap.size, 2, none⟩) (by show w.heap.size + 1 ≠ w.heap.size; omega) (.int .u16 p.v)).far (p := ⟨w.heap.size, 3, none⟩) (by show w.heap.size + 1 ≠ w.heap.size; omega) (.int .u16 p.d)).far (p := ⟨w.heap.size, 4, none⟩) (by show w.heap.size + 1 ≠ w.heap.size; omega) (.int .u16 p.h)).far (p := ⟨w.heap.size, 5, none⟩) (by show w.heap.size + 1 ≠ w.heap.size; omega) (.int .u16 p.i)).far (p := ⟨w.heap.size, 6, none⟩) (by show w.heap.size + 1 ≠ w.heap.size; omega) (.int .u16 p.s)).far (p := ⟨w.heap.size, 7, none⟩) (by show w.heap.size + 1 ≠ w.heap.size; omega) (.int .u16 p.u)).set_ 0 (.int .u16 q.y)).set_ 1 (.int .u16 q.m)).set_ 2 (.int .u16 q.v)).set_ 3 (.int .u16 q.d)).set_ 4 (.int .u16 q.h)).set_ 5 (.int .u16 q.i)).set_ 6 (.int .u16 q.s)).set_ 7 (.int .u16 999))
  simp at hX hY
  clear a6 b6 x6 y6
  go_region
  all_goals
    go_wp2_with fail
    exact bodyPost_ret (res_cct rfl _ _ _ _ _ _ #[.int .u16 p.y, .int .u16 p.m, .int .u16 p.v, .int .u16 p.d, .int .u16 p.h, .int .u16 p.i, .int .u16 p.s, .int .u16 p.u] #[.int .u16 q.y, .int .u16 q.m, .int .u16 q.v, .int .u16 q.d, .int .u16 q.h, .int .u16 q.i, .int .u16 q.s, .int .u16 999] _ _ _ rfl rfl rfl hX hY Tryd.underlying26 rfl (by kernel_rfl) Tryd.underlying26 rfl (by kernel_rfl)) rfl ⟨rfl, hBel⟩
theorem fs_in {c Y : Int} (h1 : 1601 ≤ Y) (h2 : Y ≤ 9999) (a : begY Y ≤ c) (b : c < begY (Y + 1)) : fsOk c = true := by
  obtain ⟨e1, e2⟩ := year_in (by omega) h2 a b
  unfold fsOk; rw [decide_eq_true_iff]; exact ⟨e1, by omega⟩
theorem ends_yes (Y : Int) (w : World) (hT : Tab w) (h1 : 1601 ≤ Y) (h2 : Y ≤ 9999) :
    Calls Tryd.prog 17 #[.int .i64 Y] w fun e w' => e = .returned (.tuple #[.agg (sA (enA Y)), .agg (sA (enB Y)), .int .i64 0]) ∧ Below w.heap.size w w' := by
  have hb := begY_bd (Y := Y) (by omega) h2
  have p := fs_yes (fs_in h1 h2 (c := begY Y) (by omega) hb.1)
  have q := fs_yes (fs_in h1 h2 (c := begY (Y + 1) - 1) (by omega) (by omega))
  have hp := fun w hT => stamp_any (begY Y) w hT (by omega) (by omega)
  have hq := fun w hT => stamp_any (begY (Y + 1) - 1) w hT (by omega) (by omega)
  simp only [p.1, p.2] at hp
  simp only [q.1, q.2] at hq
  exact ends_of Y (begY Y) (begY (Y + 1)) _ _ w hT (fun w => bounds_yes Y w h1 h2) hp hq (by omega) (by omega)
set_option maxRecDepth 20000 in
set_option maxHeartbeats 1600000 in
theorem ends_no (Y : Int) (w : World) (h : inY Y = false) :
    Calls Tryd.prog 17 #[.int .i64 Y] w fun e w' => e = .returned (.tuple #[.agg (sA St.nil), .agg (sA St.nil), .int .i64 1]) ∧ Below w.heap.size w w' := by
  have b1 : Below w.heap.size w ((w.alloc (.cells z8 26)).alloc (.cells z8 26)) := ((Below.refl _ _).alloc (Nat.le_refl _) _).alloc (by simp) _
  have x1 := (Blk.new w 26 z8).alloc (.cells z8 26)
  have y1 : Blk ((w.alloc (.cells z8 26)).alloc (.cells z8 26)) (w.heap.size + 1) 26 z8 := blk_at _ _ _ (sz1 w _ rfl)
  have x2 := Blk.row x1 z8
  have y2 := Blk.rowFar y1 (show w.heap.size + 1 ≠ w.heap.size by omega) z8
  have hb := fun w => bounds_no Y w h
  unfold z8 at b1 x1 y1 x2 y2
  clear h
  go_enter Tryd.func17, Tryd.ntmps17
  go_wp2_with fail
  refine (hb _).mono ?_; rintro e wq ⟨rfl, rfl⟩
  go_wp2_with (first
    | refine wpList_store_g rfl 26 _ _ rfl rfl _ 0 z8 z8 rfl rfl _ _ x1 (by show 0 + 8 ≤ 8; decide) (by kernel_rfl) (by kernel_rfl) (by kernel_rfl) ?_
    | refine wpList_store_g rfl 26 _ _ rfl rfl _ 0 z8 z8 rfl rfl _ _ y2 (by show 0 + 8 ≤ 8; decide) (by kernel_rfl) (by kernel_rfl) (by kernel_rfl) ?_)
  exact bodyPost_ret (res_cct rfl _ _ _ _ _ _ z8 z8 _ _ _ rfl rfl rfl (Blk.rowFar x2 (show w.heap.size ≠ w.heap.size + 1 by omega) _) (Blk.row y2 _) Tryd.underlying26 rfl (by kernel_rfl) Tryd.underlying26 rfl (by kernel_rfl)) rfl ⟨rfl, below_row (below_row b1 (Nat.le_refl _) _) (Nat.le_succ _) _⟩
end Go.Proofs.YtginidedeefcdaaDoor.Ft
