/-
  RULES: the stamp that falls where a rule's day does, walked.
-/
import Derived.Test.YtefcjccapekjdaaDoorShS
import Derived.Test.YtefcjccapekjdaaDoorDyC
import Derived.BigQuiet
namespace Go.Proofs.YtefcjccapekjdaaDoor.Sh
open Go.ChangeShapes Go.WideShapes Go.ChangeAt Go.RowKit
open Go.Proofs.YtefcjccapekjdaaDoor
open Go.Proofs.YtefcjccapekjdaaDoor.Wd
open Go.Proofs.YtefcjccapekjdaaDoor.Rec
open Go.Proofs.YtefcjccapekjdaaDoor.Yr
open Go.Proofs.YtefcjccapekjdaaDoor.Tb
open Go.Proofs.YtefcjccapekjdaaDoor.Civ (Tab Inv)
open Go.Proofs.YtefcjccapekjdaaDoor.Dy
set_option linter.unusedVariables false
set_option linter.unusedSimpArgs false
def whN (k n : Int) : Int := if k = 1 then 5 else if k = 2 then (n - 1) / 7 + 1 else if k = 3 then n / 7 else 0
def whB (k n : Int) : Bool := if k = 1 then true else if k = 2 then (n % 7 == 1) && decide (n ≤ 22) else if k = 3 then (n % 7 == 0) && decide (n ≤ 28) else false
theorem which_any (k n dw : Int) (w : World) (hk : 0 ≤ k ∧ k ≤ 3) (hn : 0 ≤ n ∧ n ≤ 31) (h2 : k = 2 → 1 ≤ n) :
    Calls Tryd.prog 117 #[dayV k n dw] w fun e w' => e = .returned (.tuple #[.int .i64 (whN k n), .bool (whB k n)]) ∧ Below w.heap.size w w' := by
  have hb := d_box w #[.int .u8 k, .int .i64 n, .int .i64 dw]
  have x0 : (w.alloc (.cells #[.int .u8 k, .int .i64 n, .int .i64 dw] 93)).cell? ⟨w.heap.size, 0, none⟩ = some (.int .u8 k) := (Blk.new w 93 #[.int .u8 k, .int .i64 n, .int .i64 dw]).cell 0
  have x1 : (w.alloc (.cells #[.int .u8 k, .int .i64 n, .int .i64 dw] 93)).cell? ⟨w.heap.size, 1, none⟩ = some (.int .i64 n) := (Blk.new w 93 #[.int .u8 k, .int .i64 n, .int .i64 dw]).cell 1
  have hc : k = 0 ∨ k = 1 ∨ k = 2 ∨ k = 3 := by omega
  rcases hc with rfl | rfl | rfl | rfl
  · have HN := Lib.hid (show whN 0 n = 0 from rfl); have HB := Lib.hid (show whB 0 n = false from rfl)
    rw [HN.out, HB.out]; clear h2 HN HB hk
    go_enter Tryd.func117, Tryd.ntmps117
    go_wp2
    go_ret2
    exact ⟨rfl, hb⟩
  · have HN := Lib.hid (show whN 1 n = 5 from rfl); have HB := Lib.hid (show whB 1 n = true from rfl)
    rw [HN.out, HB.out]; clear h2 HN HB hk
    go_enter Tryd.func117, Tryd.ntmps117
    go_wp2
    go_ret2
    exact ⟨rfl, hb⟩
  · have h1 := h2 rfl
    have HN := Lib.hid (show whN 2 n = (n - 1) / 7 + 1 from rfl)
    have HB := Lib.hid (show whB 2 n = ((n % 7 == 1) && decide (n ≤ 22)) from rfl)
    rw [HN.out, HB.out]; clear h2 HN HB hk
    have e0 : (n - 1).tdiv 7 = (n - 1) / 7 := Int.tdiv_eq_ediv_of_nonneg (by omega)
    have e1 : n.tmod 7 = n % 7 := Int.tmod_eq_emod_of_nonneg (by omega)
    have n0 : IntKind.i64.wrap (n - 1) = n - 1 := by simp [IntKind.wrap, IntKind.bits, IntKind.signed]; omega
    have n1 : IntKind.i64.wrap ((n - 1) / 7) = (n - 1) / 7 := by simp [IntKind.wrap, IntKind.bits, IntKind.signed]; omega
    have n2 : IntKind.i64.wrap ((n - 1) / 7 + 1) = (n - 1) / 7 + 1 := by simp [IntKind.wrap, IntKind.bits, IntKind.signed]; omega
    have n3 : IntKind.i64.wrap (n % 7) = n % 7 := by simp [IntKind.wrap, IntKind.bits, IntKind.signed]; omega
    cases h7 : (n % 7 == 1) with
    | false =>
      go_enter Tryd.func117, Tryd.ntmps117
      go_wp2
      go_quiet ((go_at_call 0))
      go_wp2
      go_ret2
      exact ⟨rfl, bdn hb _⟩
    | true =>
      by_cases h22 : n ≤ 22
      · have d1 : decide (n ≤ 22) = true := by simpa using h22
        rw [d1]
        go_enter Tryd.func117, Tryd.ntmps117
        go_wp2
        go_quiet ((go_at_call 0))
        go_wp2
        go_ret2
        exact ⟨rfl, bdn hb _⟩
      · have d1 : decide (n ≤ 22) = false := by simpa using h22
        rw [d1]
        go_enter Tryd.func117, Tryd.ntmps117
        go_wp2
        go_quiet ((go_at_call 0))
        go_wp2
        go_ret2
        exact ⟨rfl, bdn hb _⟩
  · have HN := Lib.hid (show whN 3 n = n / 7 from rfl)
    have HB := Lib.hid (show whB 3 n = ((n % 7 == 0) && decide (n ≤ 28)) from rfl)
    rw [HN.out, HB.out]; clear h2 HN HB hk
    have e0 : n.tdiv 7 = n / 7 := Int.tdiv_eq_ediv_of_nonneg (by omega)
    have e1 : n.tmod 7 = n % 7 := Int.tmod_eq_emod_of_nonneg (by omega)
    have n1 : IntKind.i64.wrap (n / 7) = n / 7 := by simp [IntKind.wrap, IntKind.bits, IntKind.signed]; omega
    have n3 : IntKind.i64.wrap (n % 7) = n % 7 := by simp [IntKind.wrap, IntKind.bits, IntKind.signed]; omega
    cases h7 : (n % 7 == 0) with
    | false =>
      go_enter Tryd.func117, Tryd.ntmps117
      go_wp2
      go_quiet ((go_at_call 0))
      go_wp2
      go_ret2
      exact ⟨rfl, bdn hb _⟩
    | true =>
      by_cases h22 : n ≤ 28
      · have d1 : decide (n ≤ 28) = true := by simpa using h22
        rw [d1]
        go_enter Tryd.func117, Tryd.ntmps117
        go_wp2
        go_quiet ((go_at_call 0))
        go_wp2
        go_ret2
        exact ⟨rfl, bdn hb _⟩
      · have d1 : decide (n ≤ 28) = false := by simpa using h22
        rw [d1]
        go_enter Tryd.func117, Tryd.ntmps117
        go_wp2
        go_quiet ((go_at_call 0))
        go_wp2
        go_ret2
        exact ⟨rfl, bdn hb _⟩
theorem res_ct {fn : Func} {p q : Tmp} {T : TypeId} (h : fn.results = #[.cell p T, .tmp q]) (tmps : Array Value) (w : World) (g : Nat) (t : TypeId) (cs : Array Value) (v : Value) (d : TypeDesc)
    (hp : tmps.getD p undef = .pointer (some ⟨g, 0, none⟩)) (hq : tmps.getD q undef = v) (hg : Blk w g t cs)
    (hu : Tryd.prog.underlying T = some d) (hd : aggT d = true) (hi : (Tryd.prog.info? T).map (·.size) = some cs.size) :
    (results fn tmps).run Tryd.prog w = .ok (.tuple #[.agg cs, v]) w := by
  have hp' : tmps[p]?.getD undef = .pointer (some ⟨g, 0, none⟩) := by simpa using hp
  have hq' : tmps[q]?.getD undef = v := by simpa using hq
  have hl : (loadVar T ⟨g, 0, none⟩).run Tryd.prog w = .ok (.agg cs) w := run_loadVar_row w g t T cs (0, 0) d hg hu (by cases d <;> first | rfl | (unfold aggT at hd; exact hd)) hi
  simp [results, h, hp', hq', asAddr, hl]
/-- whether a rule has a stamp, and which -/
def rlB (k n dw m s : Int) : Bool := dOk k n dw && (decide (1 ≤ m ∧ m ≤ 12) && (decide (0 ≤ s ∧ s ≤ 86399) && whB k n))
def rlS (k n dw m s : Int) : St := ⟨0, m, dw, whN k n, s / 3600, s / 60 % 60, s % 60, 0⟩
def rlV (k n dw m s : Int) : St := if rlB k n dw m s = true then rlS k n dw m s else St.nil
set_option maxRecDepth 100000 in
set_option maxHeartbeats 6400000 in
theorem rule_bad (k n dw m s : Int) (w : World) (hk : 0 ≤ k) (hE : dE k n dw = 2) :
    Calls Tryd.prog 65 #[dayV k n dw, .int .i64 m, .int .i64 s] w fun e w' => e = .returned (.tuple #[.agg (sA St.nil), .bool false]) ∧ Below w.heap.size w w' := by
  have b0 := ((Below.refl w.heap.size w).alloc (Nat.le_refl _) (.cells #[.int .u8 k, .int .i64 n, .int .i64 dw] 93)).alloc (by simp) (.cells #[.int .u16 0, .int .u16 0, .int .u16 0, .int .u16 0, .int .u16 0, .int .u16 0, .int .u16 0, .int .u16 0] 24)
  have d0 := (Blk.new w 93 #[.int .u8 k, .int .i64 n, .int .i64 dw]).alloc (.cells #[.int .u16 0, .int .u16 0, .int .u16 0, .int .u16 0, .int .u16 0, .int .u16 0, .int .u16 0, .int .u16 0] 24)
  have z0 := blk_at (w.alloc (.cells #[.int .u8 k, .int .i64 n, .int .i64 dw] 93)) 24 #[.int .u16 0, .int .u16 0, .int .u16 0, .int .u16 0, .int .u16 0, .int .u16 0, .int .u16 0, .int .u16 0] (sz1 w (.cells #[.int .u8 k, .int .i64 n, .int .i64 dw] 93) rfl)
  have HE := Lib.hid hE; clear hE
  go_enter Tryd.func65, Tryd.ntmps65
  go_wp2_with (refine wpList_row_g rfl 93 _ rfl _ rfl _ _ _ _ d0 Tryd.underlying93 rfl (by kernel_rfl) ?_)
  refine (dchk_any k n dw _ hk).mono ?_; rintro e w1 ⟨rfl, hb1⟩
  have b1 := b0.trans (hb1.mono b0.size)
  have d1 := d0.below hb1 d0.lt
  have z1 := z0.below hb1 z0.lt
  clear b0 d0 z0 hb1
  rw [HE.out]
  go_wp2_with (first | refine wpList_store_g rfl 24 _ _ rfl rfl (w.heap.size + 1) 0 #[.int .u16 0, .int .u16 0, .int .u16 0, .int .u16 0, .int .u16 0, .int .u16 0, .int .u16 0, .int .u16 0] #[.int .u16 0, .int .u16 0, .int .u16 0, .int .u16 0, .int .u16 0, .int .u16 0, .int .u16 0, .int .u16 0] rfl rfl _ _ z1 (by show 0 + 8 ≤ 8; decide) (by kernel_rfl) (by kernel_rfl) (by kernel_rfl) ?_)
  exact bodyPost_ret (res_ct rfl _ _ _ _ (sA St.nil) _ _ rfl rfl (Blk.row z1 _) Tryd.underlying24 rfl (by kernel_rfl)) rfl ⟨rfl, below_row b1 (by omega) _⟩
set_option maxRecDepth 100000 in
set_option maxHeartbeats 6400000 in
theorem rule_m1 (k n dw m s : Int) (w : World) (hk : 0 ≤ k) (hE : dE k n dw = 0) (h1 : m < 1) :
    Calls Tryd.prog 65 #[dayV k n dw, .int .i64 m, .int .i64 s] w fun e w' => e = .returned (.tuple #[.agg (sA St.nil), .bool false]) ∧ Below w.heap.size w w' := by
  have b0 := ((Below.refl w.heap.size w).alloc (Nat.le_refl _) (.cells #[.int .u8 k, .int .i64 n, .int .i64 dw] 93)).alloc (by simp) (.cells #[.int .u16 0, .int .u16 0, .int .u16 0, .int .u16 0, .int .u16 0, .int .u16 0, .int .u16 0, .int .u16 0] 24)
  have d0 := (Blk.new w 93 #[.int .u8 k, .int .i64 n, .int .i64 dw]).alloc (.cells #[.int .u16 0, .int .u16 0, .int .u16 0, .int .u16 0, .int .u16 0, .int .u16 0, .int .u16 0, .int .u16 0] 24)
  have z0 := blk_at (w.alloc (.cells #[.int .u8 k, .int .i64 n, .int .i64 dw] 93)) 24 #[.int .u16 0, .int .u16 0, .int .u16 0, .int .u16 0, .int .u16 0, .int .u16 0, .int .u16 0, .int .u16 0] (sz1 w (.cells #[.int .u8 k, .int .i64 n, .int .i64 dw] 93) rfl)
  have HE := Lib.hid hE; clear hE
  go_enter Tryd.func65, Tryd.ntmps65
  go_wp2_with (refine wpList_row_g rfl 93 _ rfl _ rfl _ _ _ _ d0 Tryd.underlying93 rfl (by kernel_rfl) ?_)
  refine (dchk_any k n dw _ hk).mono ?_; rintro e w1 ⟨rfl, hb1⟩
  have b1 := b0.trans (hb1.mono b0.size)
  have d1 := d0.below hb1 d0.lt
  have z1 := z0.below hb1 z0.lt
  clear b0 d0 z0 hb1
  rw [HE.out]
  go_wp2_with (first | refine wpList_store_g rfl 24 _ _ rfl rfl (w.heap.size + 1) 0 #[.int .u16 0, .int .u16 0, .int .u16 0, .int .u16 0, .int .u16 0, .int .u16 0, .int .u16 0, .int .u16 0] #[.int .u16 0, .int .u16 0, .int .u16 0, .int .u16 0, .int .u16 0, .int .u16 0, .int .u16 0, .int .u16 0] rfl rfl _ _ z1 (by show 0 + 8 ≤ 8; decide) (by kernel_rfl) (by kernel_rfl) (by kernel_rfl) ?_)
  exact bodyPost_ret (res_ct rfl _ _ _ _ (sA St.nil) _ _ rfl rfl (Blk.row z1 _) Tryd.underlying24 rfl (by kernel_rfl)) rfl ⟨rfl, below_row b1 (by omega) _⟩
set_option maxRecDepth 100000 in
set_option maxHeartbeats 6400000 in
theorem rule_m2 (k n dw m s : Int) (w : World) (hk : 0 ≤ k) (hE : dE k n dw = 0) (h1 : ¬ m < 1) (h2 : 12 < m) :
    Calls Tryd.prog 65 #[dayV k n dw, .int .i64 m, .int .i64 s] w fun e w' => e = .returned (.tuple #[.agg (sA St.nil), .bool false]) ∧ Below w.heap.size w w' := by
  have b0 := ((Below.refl w.heap.size w).alloc (Nat.le_refl _) (.cells #[.int .u8 k, .int .i64 n, .int .i64 dw] 93)).alloc (by simp) (.cells #[.int .u16 0, .int .u16 0, .int .u16 0, .int .u16 0, .int .u16 0, .int .u16 0, .int .u16 0, .int .u16 0] 24)
  have d0 := (Blk.new w 93 #[.int .u8 k, .int .i64 n, .int .i64 dw]).alloc (.cells #[.int .u16 0, .int .u16 0, .int .u16 0, .int .u16 0, .int .u16 0, .int .u16 0, .int .u16 0, .int .u16 0] 24)
  have z0 := blk_at (w.alloc (.cells #[.int .u8 k, .int .i64 n, .int .i64 dw] 93)) 24 #[.int .u16 0, .int .u16 0, .int .u16 0, .int .u16 0, .int .u16 0, .int .u16 0, .int .u16 0, .int .u16 0] (sz1 w (.cells #[.int .u8 k, .int .i64 n, .int .i64 dw] 93) rfl)
  have HE := Lib.hid hE; clear hE
  go_enter Tryd.func65, Tryd.ntmps65
  go_wp2_with (refine wpList_row_g rfl 93 _ rfl _ rfl _ _ _ _ d0 Tryd.underlying93 rfl (by kernel_rfl) ?_)
  refine (dchk_any k n dw _ hk).mono ?_; rintro e w1 ⟨rfl, hb1⟩
  have b1 := b0.trans (hb1.mono b0.size)
  have d1 := d0.below hb1 d0.lt
  have z1 := z0.below hb1 z0.lt
  clear b0 d0 z0 hb1
  rw [HE.out]
  go_wp2_with (first | refine wpList_store_g rfl 24 _ _ rfl rfl (w.heap.size + 1) 0 #[.int .u16 0, .int .u16 0, .int .u16 0, .int .u16 0, .int .u16 0, .int .u16 0, .int .u16 0, .int .u16 0] #[.int .u16 0, .int .u16 0, .int .u16 0, .int .u16 0, .int .u16 0, .int .u16 0, .int .u16 0, .int .u16 0] rfl rfl _ _ z1 (by show 0 + 8 ≤ 8; decide) (by kernel_rfl) (by kernel_rfl) (by kernel_rfl) ?_)
  exact bodyPost_ret (res_ct rfl _ _ _ _ (sA St.nil) _ _ rfl rfl (Blk.row z1 _) Tryd.underlying24 rfl (by kernel_rfl)) rfl ⟨rfl, below_row b1 (by omega) _⟩
set_option maxRecDepth 100000 in
set_option maxHeartbeats 6400000 in
theorem rule_s1 (k n dw m s : Int) (w : World) (hk : 0 ≤ k) (hE : dE k n dw = 0) (h1 : ¬ m < 1) (h2 : ¬ 12 < m) (h3 : s < 0) :
    Calls Tryd.prog 65 #[dayV k n dw, .int .i64 m, .int .i64 s] w fun e w' => e = .returned (.tuple #[.agg (sA St.nil), .bool false]) ∧ Below w.heap.size w w' := by
  have b0 := ((Below.refl w.heap.size w).alloc (Nat.le_refl _) (.cells #[.int .u8 k, .int .i64 n, .int .i64 dw] 93)).alloc (by simp) (.cells #[.int .u16 0, .int .u16 0, .int .u16 0, .int .u16 0, .int .u16 0, .int .u16 0, .int .u16 0, .int .u16 0] 24)
  have d0 := (Blk.new w 93 #[.int .u8 k, .int .i64 n, .int .i64 dw]).alloc (.cells #[.int .u16 0, .int .u16 0, .int .u16 0, .int .u16 0, .int .u16 0, .int .u16 0, .int .u16 0, .int .u16 0] 24)
  have z0 := blk_at (w.alloc (.cells #[.int .u8 k, .int .i64 n, .int .i64 dw] 93)) 24 #[.int .u16 0, .int .u16 0, .int .u16 0, .int .u16 0, .int .u16 0, .int .u16 0, .int .u16 0, .int .u16 0] (sz1 w (.cells #[.int .u8 k, .int .i64 n, .int .i64 dw] 93) rfl)
  have HE := Lib.hid hE; clear hE
  go_enter Tryd.func65, Tryd.ntmps65
  go_wp2_with (refine wpList_row_g rfl 93 _ rfl _ rfl _ _ _ _ d0 Tryd.underlying93 rfl (by kernel_rfl) ?_)
  refine (dchk_any k n dw _ hk).mono ?_; rintro e w1 ⟨rfl, hb1⟩
  have b1 := b0.trans (hb1.mono b0.size)
  have d1 := d0.below hb1 d0.lt
  have z1 := z0.below hb1 z0.lt
  clear b0 d0 z0 hb1
  rw [HE.out]
  go_wp2_with (first | refine wpList_store_g rfl 24 _ _ rfl rfl (w.heap.size + 1) 0 #[.int .u16 0, .int .u16 0, .int .u16 0, .int .u16 0, .int .u16 0, .int .u16 0, .int .u16 0, .int .u16 0] #[.int .u16 0, .int .u16 0, .int .u16 0, .int .u16 0, .int .u16 0, .int .u16 0, .int .u16 0, .int .u16 0] rfl rfl _ _ z1 (by show 0 + 8 ≤ 8; decide) (by kernel_rfl) (by kernel_rfl) (by kernel_rfl) ?_)
  exact bodyPost_ret (res_ct rfl _ _ _ _ (sA St.nil) _ _ rfl rfl (Blk.row z1 _) Tryd.underlying24 rfl (by kernel_rfl)) rfl ⟨rfl, below_row b1 (by omega) _⟩
set_option maxRecDepth 100000 in
set_option maxHeartbeats 6400000 in
theorem rule_s2 (k n dw m s : Int) (w : World) (hk : 0 ≤ k) (hE : dE k n dw = 0) (h1 : ¬ m < 1) (h2 : ¬ 12 < m) (h3 : ¬ s < 0) (h4 : 86399 < s) :
    Calls Tryd.prog 65 #[dayV k n dw, .int .i64 m, .int .i64 s] w fun e w' => e = .returned (.tuple #[.agg (sA St.nil), .bool false]) ∧ Below w.heap.size w w' := by
  have b0 := ((Below.refl w.heap.size w).alloc (Nat.le_refl _) (.cells #[.int .u8 k, .int .i64 n, .int .i64 dw] 93)).alloc (by simp) (.cells #[.int .u16 0, .int .u16 0, .int .u16 0, .int .u16 0, .int .u16 0, .int .u16 0, .int .u16 0, .int .u16 0] 24)
  have d0 := (Blk.new w 93 #[.int .u8 k, .int .i64 n, .int .i64 dw]).alloc (.cells #[.int .u16 0, .int .u16 0, .int .u16 0, .int .u16 0, .int .u16 0, .int .u16 0, .int .u16 0, .int .u16 0] 24)
  have z0 := blk_at (w.alloc (.cells #[.int .u8 k, .int .i64 n, .int .i64 dw] 93)) 24 #[.int .u16 0, .int .u16 0, .int .u16 0, .int .u16 0, .int .u16 0, .int .u16 0, .int .u16 0, .int .u16 0] (sz1 w (.cells #[.int .u8 k, .int .i64 n, .int .i64 dw] 93) rfl)
  have HE := Lib.hid hE; clear hE
  go_enter Tryd.func65, Tryd.ntmps65
  go_wp2_with (refine wpList_row_g rfl 93 _ rfl _ rfl _ _ _ _ d0 Tryd.underlying93 rfl (by kernel_rfl) ?_)
  refine (dchk_any k n dw _ hk).mono ?_; rintro e w1 ⟨rfl, hb1⟩
  have b1 := b0.trans (hb1.mono b0.size)
  have d1 := d0.below hb1 d0.lt
  have z1 := z0.below hb1 z0.lt
  clear b0 d0 z0 hb1
  rw [HE.out]
  go_wp2_with (first | refine wpList_store_g rfl 24 _ _ rfl rfl (w.heap.size + 1) 0 #[.int .u16 0, .int .u16 0, .int .u16 0, .int .u16 0, .int .u16 0, .int .u16 0, .int .u16 0, .int .u16 0] #[.int .u16 0, .int .u16 0, .int .u16 0, .int .u16 0, .int .u16 0, .int .u16 0, .int .u16 0, .int .u16 0] rfl rfl _ _ z1 (by show 0 + 8 ≤ 8; decide) (by kernel_rfl) (by kernel_rfl) (by kernel_rfl) ?_)
  exact bodyPost_ret (res_ct rfl _ _ _ _ (sA St.nil) _ _ rfl rfl (Blk.row z1 _) Tryd.underlying24 rfl (by kernel_rfl)) rfl ⟨rfl, below_row b1 (by omega) _⟩
set_option maxRecDepth 100000 in
set_option maxHeartbeats 6400000 in
theorem rule_no (k n dw m s : Int) (w : World) (hk : 0 ≤ k) (hE : dE k n dw = 0) (h1 : ¬ m < 1) (h2 : ¬ 12 < m) (h3 : ¬ s < 0) (h4 : ¬ 86399 < s) (hk3 : 0 ≤ k ∧ k ≤ 3) (hn31 : 0 ≤ n ∧ n ≤ 31) (hn2 : k = 2 → 1 ≤ n) (hB : whB k n = false) :
    Calls Tryd.prog 65 #[dayV k n dw, .int .i64 m, .int .i64 s] w fun e w' => e = .returned (.tuple #[.agg (sA St.nil), .bool false]) ∧ Below w.heap.size w w' := by
  have b0 := ((Below.refl w.heap.size w).alloc (Nat.le_refl _) (.cells #[.int .u8 k, .int .i64 n, .int .i64 dw] 93)).alloc (by simp) (.cells #[.int .u16 0, .int .u16 0, .int .u16 0, .int .u16 0, .int .u16 0, .int .u16 0, .int .u16 0, .int .u16 0] 24)
  have d0 := (Blk.new w 93 #[.int .u8 k, .int .i64 n, .int .i64 dw]).alloc (.cells #[.int .u16 0, .int .u16 0, .int .u16 0, .int .u16 0, .int .u16 0, .int .u16 0, .int .u16 0, .int .u16 0] 24)
  have z0 := blk_at (w.alloc (.cells #[.int .u8 k, .int .i64 n, .int .i64 dw] 93)) 24 #[.int .u16 0, .int .u16 0, .int .u16 0, .int .u16 0, .int .u16 0, .int .u16 0, .int .u16 0, .int .u16 0] (sz1 w (.cells #[.int .u8 k, .int .i64 n, .int .i64 dw] 93) rfl)
  have HE := Lib.hid hE; clear hE
  have HB := Lib.hid hB; clear hB
  have hwh := fun w => which_any k n dw w hk3 hn31 hn2
  clear hn2
  go_enter Tryd.func65, Tryd.ntmps65
  go_wp2_with (refine wpList_row_g rfl 93 _ rfl _ rfl _ _ _ _ d0 Tryd.underlying93 rfl (by kernel_rfl) ?_)
  refine (dchk_any k n dw _ hk).mono ?_; rintro e w1 ⟨rfl, hb1⟩
  have b1 := b0.trans (hb1.mono b0.size)
  have d1 := d0.below hb1 d0.lt
  have z1 := z0.below hb1 z0.lt
  clear b0 d0 z0 hb1
  rw [HE.out]
  go_wp2_with (refine wpList_row_g rfl 93 _ rfl _ rfl _ _ _ _ d1 Tryd.underlying93 rfl (by kernel_rfl) ?_)
  refine (hwh _).mono ?_; rintro e w2 ⟨rfl, hb2⟩
  have b2 := b1.trans (hb2.mono b1.size)
  have d2 := d1.below hb2 d1.lt
  have z2 := z1.below hb2 z1.lt
  clear b1 d1 z1 hb2
  rw [HB.out]
  go_wp2_with (first | refine wpList_store_g rfl 24 _ _ rfl rfl (w.heap.size + 1) 0 #[.int .u16 0, .int .u16 0, .int .u16 0, .int .u16 0, .int .u16 0, .int .u16 0, .int .u16 0, .int .u16 0] #[.int .u16 0, .int .u16 0, .int .u16 0, .int .u16 0, .int .u16 0, .int .u16 0, .int .u16 0, .int .u16 0] rfl rfl _ _ z2 (by show 0 + 8 ≤ 8; decide) (by kernel_rfl) (by kernel_rfl) (by kernel_rfl) ?_)
  exact bodyPost_ret (res_ct rfl _ _ _ _ (sA St.nil) _ _ rfl rfl (Blk.row z2 _) Tryd.underlying24 rfl (by kernel_rfl)) rfl ⟨rfl, below_row b2 (by omega) _⟩
set_option maxRecDepth 100000 in
set_option maxHeartbeats 6400000 in
theorem rule_yes (k n dw m s : Int) (w : World) (hk : 0 ≤ k) (hE : dE k n dw = 0) (h1 : ¬ m < 1) (h2 : ¬ 12 < m) (h3 : ¬ s < 0) (h4 : ¬ 86399 < s) (hk3 : 0 ≤ k ∧ k ≤ 3) (hn31 : 0 ≤ n ∧ n ≤ 31) (hn2 : k = 2 → 1 ≤ n) (hB : whB k n = true) (hdw : 0 ≤ dw ∧ dw ≤ 6) :
    Calls Tryd.prog 65 #[dayV k n dw, .int .i64 m, .int .i64 s] w fun e w' => e = .returned (.tuple #[.agg (sA (rlS k n dw m s)), .bool true]) ∧ Below w.heap.size w w' := by
  have b0 := ((Below.refl w.heap.size w).alloc (Nat.le_refl _) (.cells #[.int .u8 k, .int .i64 n, .int .i64 dw] 93)).alloc (by simp) (.cells #[.int .u16 0, .int .u16 0, .int .u16 0, .int .u16 0, .int .u16 0, .int .u16 0, .int .u16 0, .int .u16 0] 24)
  have d0 := (Blk.new w 93 #[.int .u8 k, .int .i64 n, .int .i64 dw]).alloc (.cells #[.int .u16 0, .int .u16 0, .int .u16 0, .int .u16 0, .int .u16 0, .int .u16 0, .int .u16 0, .int .u16 0] 24)
  have z0 := blk_at (w.alloc (.cells #[.int .u8 k, .int .i64 n, .int .i64 dw] 93)) 24 #[.int .u16 0, .int .u16 0, .int .u16 0, .int .u16 0, .int .u16 0, .int .u16 0, .int .u16 0, .int .u16 0] (sz1 w (.cells #[.int .u8 k, .int .i64 n, .int .i64 dw] 93) rfl)
  have HE := Lib.hid hE; clear hE
  have HB := Lib.hid hB; clear hB
  have hN : 0 ≤ whN k n ∧ whN k n ≤ 5 := by unfold whN; split <;> (try split) <;> (try split) <;> omega
  unfold rlS sA
  have hwh := fun w => which_any k n dw w hk3 hn31 hn2
  clear hn2
  generalize whN k n = N at *
  go_enter Tryd.func65, Tryd.ntmps65
  go_wp2_with (refine wpList_row_g rfl 93 _ rfl _ rfl _ _ _ _ d0 Tryd.underlying93 rfl (by kernel_rfl) ?_)
  refine (dchk_any k n dw _ hk).mono ?_; rintro e w1 ⟨rfl, hb1⟩
  have b1 := b0.trans (hb1.mono b0.size)
  have d1 := d0.below hb1 d0.lt
  have z1 := z0.below hb1 z0.lt
  clear b0 d0 z0 hb1
  rw [HE.out]
  go_wp2_with (refine wpList_row_g rfl 93 _ rfl _ rfl _ _ _ _ d1 Tryd.underlying93 rfl (by kernel_rfl) ?_)
  refine (hwh _).mono ?_; rintro e w2 ⟨rfl, hb2⟩
  have b2 := b1.trans (hb2.mono b1.size)
  have d2 := d1.below hb2 d1.lt
  have z2 := z1.below hb2 z1.lt
  clear b1 d1 z1 hb2
  rw [HB.out]
  have k2 := d2.cell 2; simp at k2
  have a1 : IntKind.u16.wrap m = m := by simp [IntKind.wrap, IntKind.bits, IntKind.signed]; omega
  have a2 : IntKind.u16.wrap dw = dw := by simp [IntKind.wrap, IntKind.bits, IntKind.signed]; omega
  have a3 : IntKind.u16.wrap N = N := by simp [IntKind.wrap, IntKind.bits, IntKind.signed]; omega
  have e0 : s.tdiv 3600 = s / 3600 := Int.tdiv_eq_ediv_of_nonneg (by omega)
  have e1 : s.tdiv 60 = s / 60 := Int.tdiv_eq_ediv_of_nonneg (by omega)
  have e2 : s.tmod 60 = s % 60 := Int.tmod_eq_emod_of_nonneg (by omega)
  have e3 : (s / 60).tmod 60 = s / 60 % 60 := Int.tmod_eq_emod_of_nonneg (by omega)
  have g0 : IntKind.u16.wrap (s / 3600) = s / 3600 := by simp [IntKind.wrap, IntKind.bits, IntKind.signed]; omega
  have g1 : IntKind.u16.wrap (s / 60 % 60) = s / 60 % 60 := by simp [IntKind.wrap, IntKind.bits, IntKind.signed]; omega
  have g2 : IntKind.u16.wrap (s % 60) = s % 60 := by simp [IntKind.wrap, IntKind.bits, IntKind.signed]; omega
  go_wp2_with (first | refine wpList_store_g rfl 24 _ _ rfl rfl (w.heap.size + 1) 0 #[.int .u16 0, .int .u16 m, .int .u16 dw, .int .u16 N, .int .u16 (s / 3600), .int .u16 (s / 60 % 60), .int .u16 (s % 60), .int .u16 0] #[.int .u16 0, .int .u16 m, .int .u16 dw, .int .u16 N, .int .u16 (s / 3600), .int .u16 (s / 60 % 60), .int .u16 (s % 60), .int .u16 0] rfl rfl _ _ z2 (by show 0 + 8 ≤ 8; decide) (by kernel_rfl) (by kernel_rfl) (by kernel_rfl) ?_)
  exact bodyPost_ret (res_ct rfl _ _ _ _ #[.int .u16 0, .int .u16 m, .int .u16 dw, .int .u16 N, .int .u16 (s / 3600), .int .u16 (s / 60 % 60), .int .u16 (s % 60), .int .u16 0] _ _ rfl rfl (Blk.row z2 _) Tryd.underlying24 rfl (by kernel_rfl)) rfl ⟨rfl, below_row b2 (by omega) _⟩
theorem rule_any (k n dw m s : Int) (w : World) (hk : 0 ≤ k) :
    Calls Tryd.prog 65 #[dayV k n dw, .int .i64 m, .int .i64 s] w fun e w' => e = .returned (.tuple #[.agg (sA (rlV k n dw m s)), .bool (rlB k n dw m s)]) ∧ Below w.heap.size w w' := by
  have no : rlB k n dw m s = false → Calls Tryd.prog 65 #[dayV k n dw, .int .i64 m, .int .i64 s] w (fun e w' => e = .returned (.tuple #[.agg (sA St.nil), .bool false]) ∧ Below w.heap.size w w') → Calls Tryd.prog 65 #[dayV k n dw, .int .i64 m, .int .i64 s] w fun e w' => e = .returned (.tuple #[.agg (sA (rlV k n dw m s)), .bool (rlB k n dw m s)]) ∧ Below w.heap.size w w' := fun h q => by
    rw [show rlV k n dw m s = St.nil by unfold rlV; rw [if_neg (by rw [h]; decide)], h]; exact q
  cases hd : dOk k n dw with
  | false => exact no (by unfold rlB; rw [hd]; rfl) (rule_bad k n dw m s w hk (by unfold dE; rw [hd]; rfl))
  | true =>
    have hE : dE k n dw = 0 := by unfold dE; rw [hd]; rfl
    by_cases h1 : m < 1
    · exact no (by unfold rlB; rw [hd, show decide (1 ≤ m ∧ m ≤ 12) = false by simp; omega]; rfl) (rule_m1 k n dw m s w hk hE h1)
    by_cases h2 : 12 < m
    · exact no (by unfold rlB; rw [hd, show decide (1 ≤ m ∧ m ≤ 12) = false by simp; omega]; rfl) (rule_m2 k n dw m s w hk hE h1 h2)
    have hm : decide (1 ≤ m ∧ m ≤ 12) = true := by simp; omega
    by_cases h3 : s < 0
    · exact no (by unfold rlB; rw [hd, hm, show decide (0 ≤ s ∧ s ≤ 86399) = false by simp; omega]; rfl) (rule_s1 k n dw m s w hk hE h1 h2 h3)
    by_cases h4 : 86399 < s
    · exact no (by unfold rlB; rw [hd, hm, show decide (0 ≤ s ∧ s ≤ 86399) = false by simp; omega]; rfl) (rule_s2 k n dw m s w hk hE h1 h2 h3 h4)
    have hs : decide (0 ≤ s ∧ s ≤ 86399) = true := by simp; omega
    have hq : k ≤ 3 ∧ dLo k ≤ n ∧ n ≤ dHi k ∧ 0 ≤ dw ∧ dw ≤ dDs k := of_decide_eq_true hd
    have hlo : 0 ≤ dLo k ∧ (k = 2 → dLo k = 1) := by unfold dLo; split <;> omega
    have hhi : dHi k ≤ 31 := by unfold dHi; split <;> omega
    have hds : dDs k ≤ 6 := by unfold dDs; split <;> omega
    have hn2 : k = 2 → 1 ≤ n := fun e => by have := hlo.2 e; omega
    cases hB : whB k n with
    | false => exact no (by unfold rlB; rw [hd, hm, hs, hB]; rfl) (rule_no k n dw m s w hk hE h1 h2 h3 h4 (by omega) (by omega) hn2 hB)
    | true =>
      have e : rlB k n dw m s = true := by unfold rlB; rw [hd, hm, hs, hB]; rfl
      rw [show rlV k n dw m s = rlS k n dw m s by unfold rlV; rw [if_pos e], e]
      exact rule_yes k n dw m s w hk hE h1 h2 h3 h4 (by omega) (by omega) hn2 hB (by omega)
end Go.Proofs.YtefcjccapekjdaaDoor.Sh
