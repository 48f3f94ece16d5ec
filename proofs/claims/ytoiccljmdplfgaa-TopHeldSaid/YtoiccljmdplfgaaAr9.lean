/-
  AreaCut: three corners; in full: walked.
-/
import Derived.Test.YtoiccljmdplfgaaAr8
namespace Go.Proofs.Ytoiccljmdplfgaa.Ar
open Go.ChangeShapes Go.WideShapes Go.ChangeAt Go.RowKit Go.Shelf
open Go.Proofs.Ytoiccljmdplfgaa
open Go.Proofs.Ytoiccljmdplfgaa.Wd
open Go.Proofs.Ytoiccljmdplfgaa.Pl
open Go.Proofs.Ytoiccljmdplfgaa.Nv
open Go.Proofs.Ytoiccljmdplfgaa.Ld
set_option linter.unusedVariables false
set_option linter.unusedSimpArgs false
attribute [local go_sem ↓] Go.wp_at_zero Go.wp_at_succ
attribute [local go_sem ↓] ldA_sem ldP_sem
attribute [local go_sem] ldSem_run
theorem sgn_p {x : Int} (h : 0 < x) : sgn x = 1 := by unfold sgn; rw [if_pos h]
theorem sgn_n {x : Int} (h : x < 0) : sgn x = -1 := by unfold sgn; rw [if_neg (by omega), if_pos h]
theorem sgn_z {x : Int} (h : x = 0) : sgn x = 0 := by unfold sgn; rw [if_neg (by omega), if_neg (by omega)]
theorem one_sgn (x y z : Int) : ((sgn x != 0) && ((sgn x == sgn y) && (sgn y == sgn z))) = oneB x y z := by
  unfold oneB
  rcases Int.lt_trichotomy x 0 with h | h | h <;> rcases Int.lt_trichotomy y 0 with g | g | g <;> rcases Int.lt_trichotomy z 0 with k | k | k
  all_goals
    first | rw [sgn_n h] | rw [sgn_z h] | rw [sgn_p h]
    first | rw [sgn_n g] | rw [sgn_z g] | rw [sgn_p g]
    first | rw [sgn_n k] | rw [sgn_z k] | rw [sgn_p k]
    first | (rw [decide_eq_true (by omega)]; rfl) | (rw [decide_eq_false (by omega)]; rfl)
theorem tri_key {a b q p : P2} (ha : a.ok = true) (hb : b.ok = true) (hq : q.ok = true) (hp : p.ok = true) :
    inB [a, b, q] p = (((turnV a b p != 0) && ((turnV a b p == turnV b q p) && (turnV b q p == turnV q a p))) || edB [a, b, q] p) := by
  cases hE : edB [a, b, q] p
  · have t : ∀ u v : P2, u.ok = true → v.ok = true → turnV u v p = sgn (side u v p) := fun u v hu hv => by
      unfold turnV; rw [if_pos (show ok3 u v p = true by unfold ok3; rw [hu, hv, hp]; rfl)]
    rw [t a b ha hb, t b q hb hq, t q a hq ha, one_sgn]
    unfold inB
    rw [hE, tri_law ha hb hq hp hE]
    simp
  · unfold inB; rw [hE]; simp
theorem ld_pt {w : World} {B : Nat} {r : Addr} {x : P2} (h : Row w B r x.A) : ldT 23 (.pointer (some r)) w = some x.A := by
  refine ldT_of ?_
  have := run_loadVar_at (P := Try.prog) w B r 23 x.A _ h Try.underlying23 rfl (by kernel_rfl)
  simp only [Instr.loadAt, Instr.sureAddr, Sem.run_bind, Sem.run_pure, Result.andThen_ok, this]
theorem s7_mk {w W : World} {c : Nat} {z : ByteArray} {ad : Addr} {p a b q : P2} (iv : BI w W) (hx : Blk W w.heap.size 34 (arA z (some ad) 3 c)) (hy : Blk W (w.heap.size + 1) 23 p.A) (hr : Pts W W.heap.size (some ad) 3 [a, b, q]) :
    BI w W ∧ Blk W w.heap.size 34 (arA z (some ad) 3 c) ∧ Blk W (w.heap.size + 1) 23 p.A ∧ Pts W W.heap.size (some ad) 3 [a, b, q] ∧ W.cell? ⟨w.heap.size, 1, none⟩ = some (.slice (some ad) 3 c) ∧ ldT 23 (.pointer (some ⟨w.heap.size + 1, 0, none⟩)) W = some p.A ∧ ldT 23 (.pointer (some ad)) W = some a.A ∧ ldT 23 (.pointer (some ⟨ad.block, ad.off + 2, none⟩)) W = some b.A ∧ ldT 23 (.pointer (some ⟨ad.block, ad.off + 4, none⟩)) W = some q.A := by
  have r : ∀ (k : Nat) (hk : k < 3), Row W W.heap.size (ad.add (k * 2)) ([a, b, q] : List P2)[k].A := fun k hk => by
    obtain ⟨ad', e, h⟩ := hr.row (k := k) hk hk
    obtain rfl := Option.some.inj e
    exact h
  exact ⟨iv, hx, hy, hr, hx.cell 1, ldT_of (ld_seg hy Try.underlying23 rfl (by kernel_rfl) (by kernel_rfl)), ld_pt (row_0 (r 0 (by decide))), ld_pt (row_form (show 0 < 1 * 2 by decide) (r 1 (by decide))), ld_pt (row_form (show 0 < 2 * 2 by decide) (r 2 (by decide)))⟩
theorem s7_on {w W W2 : World} {c : Nat} {z : ByteArray} {ad : Addr} {p a b q : P2} (h : BI w W ∧ Blk W w.heap.size 34 (arA z (some ad) 3 c) ∧ Blk W (w.heap.size + 1) 23 p.A ∧ Pts W W.heap.size (some ad) 3 [a, b, q] ∧ W.cell? ⟨w.heap.size, 1, none⟩ = some (.slice (some ad) 3 c) ∧ ldT 23 (.pointer (some ⟨w.heap.size + 1, 0, none⟩)) W = some p.A ∧ ldT 23 (.pointer (some ad)) W = some a.A ∧ ldT 23 (.pointer (some ⟨ad.block, ad.off + 2, none⟩)) W = some b.A ∧ ldT 23 (.pointer (some ⟨ad.block, ad.off + 4, none⟩)) W = some q.A) (hbx : Below W.heap.size W W2) :
    BI w W2 ∧ Blk W2 w.heap.size 34 (arA z (some ad) 3 c) ∧ Blk W2 (w.heap.size + 1) 23 p.A ∧ Pts W2 W2.heap.size (some ad) 3 [a, b, q] ∧ W2.cell? ⟨w.heap.size, 1, none⟩ = some (.slice (some ad) 3 c) ∧ ldT 23 (.pointer (some ⟨w.heap.size + 1, 0, none⟩)) W2 = some p.A ∧ ldT 23 (.pointer (some ad)) W2 = some a.A ∧ ldT 23 (.pointer (some ⟨ad.block, ad.off + 2, none⟩)) W2 = some b.A ∧ ldT 23 (.pointer (some ⟨ad.block, ad.off + 4, none⟩)) W2 = some q.A := by
  obtain ⟨iv, hx, hy, hr, _⟩ := h
  exact s7_mk (iv.call hbx) (hx.below hbx hx.lt) (hy.below hbx hy.lt) (pts_ca hr hbx)
set_option maxRecDepth 100000 in
set_option maxHeartbeats 12800000 in
attribute [-go_sem] run_slice_l run_slice_h run_slice_lh run_slice_any in
theorem cut_tri (z : ByteArray) (A : Option Addr) (n c : Nat) (l : List P2) (p : P2) (f t : Int) (w : World) (hz : z.size ≤ maxLen) (hR : Pts w w.heap.size A n l) (hm : n ≤ maxLen) (hnc : n ≤ c) (hf : 0 ≤ f ∧ f ≤ 255) (ht : 0 ≤ t ∧ t ≤ 255) (h1 : smV [⟨z, A, n, c, l⟩] = true) (h2 : arOk z l = true) (h3 : p.ok = true) (h3n : n = 3) :
    Calls Try.prog 6 #[arV z A n c, p.V, .int .u8 f, .int .u8 t] w fun e w' => e = .returned (.bool true) ∧ Below w.heap.size w w' := by
  have i1 := ((BI.start w).alloc (.cells (arA z A n c) 34)).alloc (.cells p.A 23)
  have x1 := (Blk.new w 34 (arA z A n c)).alloc (.cells p.A 23)
  have y1 := blk_at (w.alloc (.cells (arA z A n c) 34)) 23 p.A (sz1 _ _ rfl)
  have hsm := fun W (i : BI w W) => one_ar (Blk.new W 34 (arA z A n c)) (pts_al (Pts.more (hR.below i.b) i.b.size) (.cells (arA z A n c) 34)) hz hm
  have hck := fun W (i : BI w W) => acheck_any z A n c w.heap.size l W hz (hR.below i.b) i.b.size hm
  have hpc := fun W => check_any p W
  rw [h1] at hsm
  simp only [if_true] at hsm
  rw [arE_yes h2] at hck
  have hv : (chkV p != 0) = false := by unfold chkV; rw [h3]; rfl
  have hn3 : 3 ≤ n ∧ n ≤ 40 := by
    have q1 := (ar_iff.1 h2).2.1
    have q2 := hR.1
    have q3 : n ≤ 40 := by
      unfold smV at h1
      simp at h1
      exact h1.1
    omega
  obtain ⟨ad, rfl, -⟩ := hR.row (k := 0) (by omega) (by rw [hR.1]; omega)
  have hrt : rtB z l p = true := by unfold rtB; rw [h2, h3]; rfl
  subst h3n
  have hokl := (ar_iff.1 h2).2.2
  obtain ⟨a, b, q, rfl⟩ : ∃ a b q, l = [a, b, q] := by
    have := hR.1
    match l, this with
    | [a, b, q], _ => exact ⟨a, b, q, rfl⟩
  have ha : a.ok = true := pt_ok hokl (k := 0) (show 0 < 3 by decide)
  have hb : b.ok = true := pt_ok hokl (k := 1) (show 1 < 3 by decide)
  have hq : q.ok = true := pt_ok hokl (k := 2) (show 2 < 3 by decide)
  have KEY := Lib.hid (tri_key ha hb hq h3)
  have nA := fun W h => Inside_any z (some ad) 3 c [a, b, q] p W hz h hm
  have eA := fun W h => Edge_any z (some ad) 3 c [a, b, q] p W hz h hm
  rw [hrt] at nA eA
  simp only [Bool.true_and] at nA eA
  clear h1 h2 h3 hokl ha hb hq hrt
  go_enter Try.func6, Try.ntmps6
  go_wp2_with fail
  refine (lives44_any _).mono ?_; rintro e w2 ⟨rfl, hb2⟩
  have i2 := i1.call hb2
  have x2 := x1.below hb2 x1.lt
  have y2 := y1.below hb2 y1.lt
  clear i1 x1 y1 hb2
  go_wp2_with (first | refine wpList_row_g rfl 34 _ rfl _ rfl _ _ _ _ x2 Try.underlying34 rfl (by kernel_rfl) ?_)
  refine (hsm _ i2).mono ?_; rintro e w3 ⟨rfl, hb3⟩
  have i3 := (i2.alloc (.cells (arA z (some ad) 3 c) 34)).call hb3
  have x3 := (x2.alloc (.cells (arA z (some ad) 3 c) 34)).below hb3 (x2.alloc (.cells (arA z (some ad) 3 c) 34)).lt
  have y3 := (y2.alloc (.cells (arA z (some ad) 3 c) 34)).below hb3 (y2.alloc (.cells (arA z (some ad) 3 c) 34)).lt
  clear i2 x2 y2 hb3
  go_wp2_with (first | refine wpList_row_g rfl 34 _ rfl _ rfl _ _ _ _ x3 Try.underlying34 rfl (by kernel_rfl) ?_)
  refine (hck _ i3).mono ?_; rintro e w4 ⟨rfl, hb4⟩
  have i4 := i3.call hb4
  have x4 := x3.below hb4 x3.lt
  have y4 := y3.below hb4 y3.lt
  clear i3 x3 y3 hb4
  go_wp2_with (first | refine wpList_row_g rfl 23 _ rfl _ rfl _ _ _ _ y4 Try.underlying23 rfl (by kernel_rfl) ?_)
  refine (hpc _).mono ?_; rintro e w5 ⟨rfl, hb5⟩
  have i5 := i4.call hb5
  have x5 := x4.below hb5 x4.lt
  have y5 := y4.below hb5 y4.lt
  clear i4 x4 y4 hb5
  have d1 : w5.cell? ⟨w.heap.size, 1, none⟩ = some (.slice (some ad) 3 c) := x5.cell 1
  clear hsm hck hpc
  go_upto_region 7 with fail
  have ZZ := Lib.hid (s7_mk (W := w5.drew) i5.drew (show Blk w5.drew _ _ _ from x5) (show Blk w5.drew _ _ _ from y5) (show Pts w5.drew w5.drew.heap.size _ _ _ from Pts.more (hR.below i5.drew.b) i5.drew.b.size))
  clear d1 x5 y5 i5
  refine wp_region_held_drew (S := fun w' => BI w w' ∧ Blk w' w.heap.size 34 (arA z (some ad) 3 c) ∧ Blk w' (w.heap.size + 1) 23 p.A ∧ Pts w' w'.heap.size (some ad) 3 [a, b, q] ∧ w'.cell? ⟨w.heap.size, 1, none⟩ = some (.slice (some ad) 3 c) ∧ ldT 23 (.pointer (some ⟨w.heap.size + 1, 0, none⟩)) w' = some p.A ∧ ldT 23 (.pointer (some ad)) w' = some a.A ∧ ldT 23 (.pointer (some ⟨ad.block, ad.off + 2, none⟩)) w' = some b.A ∧ ldT 23 (.pointer (some ⟨ad.block, ad.off + 4, none⟩)) w' = some q.A) (by kernel_rfl) (ZZ.out) (fun hHeld => ?_)
  refine wpAnyH_take (i := 0) (oi := { dst := some 39, op := Op.fieldAddr 34 (Operand.tmp 4) 1, type := 0, pos := "law.go:73", after := #[], guard := none }) (v := ?_) rfl (by kernel_rfl) (by kernel_rfl) (by kernel_rfl) (fun _ _ _ h => h) (Or.inl ⟨by rfl, ?_⟩) hHeld ?_
  rotate_left
  · intro w hSw
    try dsimp only at hSw
    go_simp
    try with_reducible rfl
  try simp only [Act.put, List.setIfInBounds_toArray, List.set_cons_zero, List.set_cons_succ]
  refine wpAnyH_take (i := 1) (oi := { dst := some 40, op := Op.load 32 (Operand.tmp 39), type := 32, pos := "law.go:73", after := #[{ on := 0, ground := Ground.data }], guard := none }) (v := ?_) rfl (by kernel_rfl) (by kernel_rfl) (by kernel_rfl) (fun _ _ _ h => h) (Or.inl ⟨by rfl, ?_⟩) hHeld ?_
  rotate_left
  · intro w hSw
    try dsimp only at hSw
    go_simp
    try with_reducible rfl
  try simp only [Act.put, List.setIfInBounds_toArray, List.set_cons_zero, List.set_cons_succ]
  refine wpAnyH_take (i := 2) (oi := { dst := some 41, op := Op.indexAddr 32 (Operand.tmp 40) (Operand.const (Value.int IntKind.i64 0)), type := 0, pos := "law.go:73", after := #[{ on := 1, ground := Ground.data }], guard := none }) (v := ?_) rfl (by kernel_rfl) (by kernel_rfl) (by kernel_rfl) (fun _ _ _ h => h) (Or.inl ⟨by rfl, ?_⟩) hHeld ?_
  rotate_left
  · intro w hSw
    try dsimp only at hSw
    go_simp
    try with_reducible rfl
  try simp only [Act.put, List.setIfInBounds_toArray, List.set_cons_zero, List.set_cons_succ]
  refine wpAnyH_take (i := 3) (oi := { dst := some 42, op := Op.load 23 (Operand.tmp 41), type := 23, pos := "law.go:73", after := #[{ on := 2, ground := Ground.data }], guard := none }) (v := ?_) rfl (by kernel_rfl) (by kernel_rfl) (by kernel_rfl) (fun _ _ _ h => h) (Or.inl ⟨by rfl, ?_⟩) hHeld ?_
  rotate_left
  · intro w hSw
    try dsimp only at hSw
    go_simp
    try with_reducible rfl
  try simp only [Act.put, List.setIfInBounds_toArray, List.set_cons_zero, List.set_cons_succ]
  refine wpAnyH_take (i := 4) (oi := { dst := some 43, op := Op.fieldAddr 34 (Operand.tmp 4) 1, type := 0, pos := "law.go:73", after := #[], guard := none }) (v := ?_) rfl (by kernel_rfl) (by kernel_rfl) (by kernel_rfl) (fun _ _ _ h => h) (Or.inl ⟨by rfl, ?_⟩) hHeld ?_
  rotate_left
  · intro w hSw
    try dsimp only at hSw
    go_simp
    try with_reducible rfl
  try simp only [Act.put, List.setIfInBounds_toArray, List.set_cons_zero, List.set_cons_succ]
  refine wpAnyH_take (i := 5) (oi := { dst := some 44, op := Op.load 32 (Operand.tmp 43), type := 32, pos := "law.go:73", after := #[{ on := 4, ground := Ground.data }], guard := none }) (v := ?_) rfl (by kernel_rfl) (by kernel_rfl) (by kernel_rfl) (fun _ _ _ h => h) (Or.inl ⟨by rfl, ?_⟩) hHeld ?_
  rotate_left
  · intro w hSw
    try dsimp only at hSw
    go_simp
    try with_reducible rfl
  try simp only [Act.put, List.setIfInBounds_toArray, List.set_cons_zero, List.set_cons_succ]
  refine wpAnyH_take (i := 6) (oi := { dst := some 45, op := Op.indexAddr 32 (Operand.tmp 44) (Operand.const (Value.int IntKind.i64 1)), type := 0, pos := "law.go:73", after := #[{ on := 5, ground := Ground.data }], guard := none }) (v := ?_) rfl (by kernel_rfl) (by kernel_rfl) (by kernel_rfl) (fun _ _ _ h => h) (Or.inl ⟨by rfl, ?_⟩) hHeld ?_
  rotate_left
  · intro w hSw
    try dsimp only at hSw
    go_simp
    try with_reducible rfl
  try simp only [Act.put, List.setIfInBounds_toArray, List.set_cons_zero, List.set_cons_succ]
  refine wpAnyH_take (i := 7) (oi := { dst := some 46, op := Op.load 23 (Operand.tmp 45), type := 23, pos := "law.go:73", after := #[{ on := 6, ground := Ground.data }], guard := none }) (v := ?_) rfl (by kernel_rfl) (by kernel_rfl) (by kernel_rfl) (fun _ _ _ h => h) (Or.inl ⟨by rfl, ?_⟩) hHeld ?_
  rotate_left
  · intro w hSw
    try dsimp only at hSw
    go_simp
    try with_reducible rfl
  try simp only [Act.put, List.setIfInBounds_toArray, List.set_cons_zero, List.set_cons_succ]
  refine wpAnyH_take (i := 8) (oi := { dst := some 47, op := Op.load 23 (Operand.tmp 5), type := 23, pos := "law.go:73", after := #[], guard := none }) (v := ?_) rfl (by kernel_rfl) (by kernel_rfl) (by kernel_rfl) (fun _ _ _ h => h) (Or.inl ⟨by rfl, ?_⟩) hHeld ?_
  rotate_left
  · intro w hSw
    try dsimp only at hSw
    go_simp
    try with_reducible rfl
  try simp only [Act.put, List.setIfInBounds_toArray, List.set_cons_zero, List.set_cons_succ]
  refine wpAnyH_take (i := 10) (oi := { dst := some 49, op := Op.fieldAddr 34 (Operand.tmp 4) 1, type := 0, pos := "law.go:73", after := #[], guard := none }) (v := ?_) rfl (by kernel_rfl) (by kernel_rfl) (by kernel_rfl) (fun _ _ _ h => h) (Or.inl ⟨by rfl, ?_⟩) hHeld ?_
  rotate_left
  · intro w hSw
    try dsimp only at hSw
    go_simp
    try with_reducible rfl
  try simp only [Act.put, List.setIfInBounds_toArray, List.set_cons_zero, List.set_cons_succ]
  refine wpAnyH_take (i := 11) (oi := { dst := some 50, op := Op.load 32 (Operand.tmp 49), type := 32, pos := "law.go:73", after := #[{ on := 10, ground := Ground.data }], guard := none }) (v := ?_) rfl (by kernel_rfl) (by kernel_rfl) (by kernel_rfl) (fun _ _ _ h => h) (Or.inl ⟨by rfl, ?_⟩) hHeld ?_
  rotate_left
  · intro w hSw
    try dsimp only at hSw
    go_simp
    try with_reducible rfl
  try simp only [Act.put, List.setIfInBounds_toArray, List.set_cons_zero, List.set_cons_succ]
  refine wpAnyH_take (i := 12) (oi := { dst := some 51, op := Op.indexAddr 32 (Operand.tmp 50) (Operand.const (Value.int IntKind.i64 1)), type := 0, pos := "law.go:73", after := #[{ on := 11, ground := Ground.data }], guard := none }) (v := ?_) rfl (by kernel_rfl) (by kernel_rfl) (by kernel_rfl) (fun _ _ _ h => h) (Or.inl ⟨by rfl, ?_⟩) hHeld ?_
  rotate_left
  · intro w hSw
    try dsimp only at hSw
    go_simp
    try with_reducible rfl
  try simp only [Act.put, List.setIfInBounds_toArray, List.set_cons_zero, List.set_cons_succ]
  refine wpAnyH_take (i := 13) (oi := { dst := some 52, op := Op.load 23 (Operand.tmp 51), type := 23, pos := "law.go:73", after := #[{ on := 12, ground := Ground.data }], guard := none }) (v := ?_) rfl (by kernel_rfl) (by kernel_rfl) (by kernel_rfl) (fun _ _ _ h => h) (Or.inl ⟨by rfl, ?_⟩) hHeld ?_
  rotate_left
  · intro w hSw
    try dsimp only at hSw
    go_simp
    try with_reducible rfl
  try simp only [Act.put, List.setIfInBounds_toArray, List.set_cons_zero, List.set_cons_succ]
  refine wpAnyH_take (i := 14) (oi := { dst := some 53, op := Op.fieldAddr 34 (Operand.tmp 4) 1, type := 0, pos := "law.go:73", after := #[], guard := none }) (v := ?_) rfl (by kernel_rfl) (by kernel_rfl) (by kernel_rfl) (fun _ _ _ h => h) (Or.inl ⟨by rfl, ?_⟩) hHeld ?_
  rotate_left
  · intro w hSw
    try dsimp only at hSw
    go_simp
    try with_reducible rfl
  try simp only [Act.put, List.setIfInBounds_toArray, List.set_cons_zero, List.set_cons_succ]
  refine wpAnyH_take (i := 15) (oi := { dst := some 54, op := Op.load 32 (Operand.tmp 53), type := 32, pos := "law.go:73", after := #[{ on := 14, ground := Ground.data }], guard := none }) (v := ?_) rfl (by kernel_rfl) (by kernel_rfl) (by kernel_rfl) (fun _ _ _ h => h) (Or.inl ⟨by rfl, ?_⟩) hHeld ?_
  rotate_left
  · intro w hSw
    try dsimp only at hSw
    go_simp
    try with_reducible rfl
  try simp only [Act.put, List.setIfInBounds_toArray, List.set_cons_zero, List.set_cons_succ]
  refine wpAnyH_take (i := 16) (oi := { dst := some 55, op := Op.indexAddr 32 (Operand.tmp 54) (Operand.const (Value.int IntKind.i64 2)), type := 0, pos := "law.go:73", after := #[{ on := 15, ground := Ground.data }], guard := none }) (v := ?_) rfl (by kernel_rfl) (by kernel_rfl) (by kernel_rfl) (fun _ _ _ h => h) (Or.inl ⟨by rfl, ?_⟩) hHeld ?_
  rotate_left
  · intro w hSw
    try dsimp only at hSw
    go_simp
    try with_reducible rfl
  try simp only [Act.put, List.setIfInBounds_toArray, List.set_cons_zero, List.set_cons_succ]
  refine wpAnyH_take (i := 17) (oi := { dst := some 56, op := Op.load 23 (Operand.tmp 55), type := 23, pos := "law.go:73", after := #[{ on := 16, ground := Ground.data }], guard := none }) (v := ?_) rfl (by kernel_rfl) (by kernel_rfl) (by kernel_rfl) (fun _ _ _ h => h) (Or.inl ⟨by rfl, ?_⟩) hHeld ?_
  rotate_left
  · intro w hSw
    try dsimp only at hSw
    go_simp
    try with_reducible rfl
  try simp only [Act.put, List.setIfInBounds_toArray, List.set_cons_zero, List.set_cons_succ]
  refine wpAnyH_take (i := 18) (oi := { dst := some 57, op := Op.load 23 (Operand.tmp 5), type := 23, pos := "law.go:73", after := #[], guard := none }) (v := ?_) rfl (by kernel_rfl) (by kernel_rfl) (by kernel_rfl) (fun _ _ _ h => h) (Or.inl ⟨by rfl, ?_⟩) hHeld ?_
  rotate_left
  · intro w hSw
    try dsimp only at hSw
    go_simp
    try with_reducible rfl
  try simp only [Act.put, List.setIfInBounds_toArray, List.set_cons_zero, List.set_cons_succ]
  refine wpAnyH_take (i := 20) (oi := { dst := some 59, op := Op.fieldAddr 34 (Operand.tmp 4) 1, type := 0, pos := "law.go:73", after := #[], guard := none }) (v := ?_) rfl (by kernel_rfl) (by kernel_rfl) (by kernel_rfl) (fun _ _ _ h => h) (Or.inl ⟨by rfl, ?_⟩) hHeld ?_
  rotate_left
  · intro w hSw
    try dsimp only at hSw
    go_simp
    try with_reducible rfl
  try simp only [Act.put, List.setIfInBounds_toArray, List.set_cons_zero, List.set_cons_succ]
  refine wpAnyH_take (i := 21) (oi := { dst := some 60, op := Op.load 32 (Operand.tmp 59), type := 32, pos := "law.go:73", after := #[{ on := 20, ground := Ground.data }], guard := none }) (v := ?_) rfl (by kernel_rfl) (by kernel_rfl) (by kernel_rfl) (fun _ _ _ h => h) (Or.inl ⟨by rfl, ?_⟩) hHeld ?_
  rotate_left
  · intro w hSw
    try dsimp only at hSw
    go_simp
    try with_reducible rfl
  try simp only [Act.put, List.setIfInBounds_toArray, List.set_cons_zero, List.set_cons_succ]
  refine wpAnyH_take (i := 22) (oi := { dst := some 61, op := Op.indexAddr 32 (Operand.tmp 60) (Operand.const (Value.int IntKind.i64 2)), type := 0, pos := "law.go:73", after := #[{ on := 21, ground := Ground.data }], guard := none }) (v := ?_) rfl (by kernel_rfl) (by kernel_rfl) (by kernel_rfl) (fun _ _ _ h => h) (Or.inl ⟨by rfl, ?_⟩) hHeld ?_
  rotate_left
  · intro w hSw
    try dsimp only at hSw
    go_simp
    try with_reducible rfl
  try simp only [Act.put, List.setIfInBounds_toArray, List.set_cons_zero, List.set_cons_succ]
  refine wpAnyH_take (i := 23) (oi := { dst := some 62, op := Op.load 23 (Operand.tmp 61), type := 23, pos := "law.go:73", after := #[{ on := 22, ground := Ground.data }], guard := none }) (v := ?_) rfl (by kernel_rfl) (by kernel_rfl) (by kernel_rfl) (fun _ _ _ h => h) (Or.inl ⟨by rfl, ?_⟩) hHeld ?_
  rotate_left
  · intro w hSw
    try dsimp only at hSw
    go_simp
    try with_reducible rfl
  try simp only [Act.put, List.setIfInBounds_toArray, List.set_cons_zero, List.set_cons_succ]
  refine wpAnyH_take (i := 24) (oi := { dst := some 63, op := Op.fieldAddr 34 (Operand.tmp 4) 1, type := 0, pos := "law.go:73", after := #[], guard := none }) (v := ?_) rfl (by kernel_rfl) (by kernel_rfl) (by kernel_rfl) (fun _ _ _ h => h) (Or.inl ⟨by rfl, ?_⟩) hHeld ?_
  rotate_left
  · intro w hSw
    try dsimp only at hSw
    go_simp
    try with_reducible rfl
  try simp only [Act.put, List.setIfInBounds_toArray, List.set_cons_zero, List.set_cons_succ]
  refine wpAnyH_take (i := 25) (oi := { dst := some 64, op := Op.load 32 (Operand.tmp 63), type := 32, pos := "law.go:73", after := #[{ on := 24, ground := Ground.data }], guard := none }) (v := ?_) rfl (by kernel_rfl) (by kernel_rfl) (by kernel_rfl) (fun _ _ _ h => h) (Or.inl ⟨by rfl, ?_⟩) hHeld ?_
  rotate_left
  · intro w hSw
    try dsimp only at hSw
    go_simp
    try with_reducible rfl
  try simp only [Act.put, List.setIfInBounds_toArray, List.set_cons_zero, List.set_cons_succ]
  refine wpAnyH_take (i := 26) (oi := { dst := some 65, op := Op.indexAddr 32 (Operand.tmp 64) (Operand.const (Value.int IntKind.i64 0)), type := 0, pos := "law.go:73", after := #[{ on := 25, ground := Ground.data }], guard := none }) (v := ?_) rfl (by kernel_rfl) (by kernel_rfl) (by kernel_rfl) (fun _ _ _ h => h) (Or.inl ⟨by rfl, ?_⟩) hHeld ?_
  rotate_left
  · intro w hSw
    try dsimp only at hSw
    go_simp
    try with_reducible rfl
  try simp only [Act.put, List.setIfInBounds_toArray, List.set_cons_zero, List.set_cons_succ]
  refine wpAnyH_take (i := 27) (oi := { dst := some 66, op := Op.load 23 (Operand.tmp 65), type := 23, pos := "law.go:73", after := #[{ on := 26, ground := Ground.data }], guard := none }) (v := ?_) rfl (by kernel_rfl) (by kernel_rfl) (by kernel_rfl) (fun _ _ _ h => h) (Or.inl ⟨by rfl, ?_⟩) hHeld ?_
  rotate_left
  · intro w hSw
    try dsimp only at hSw
    go_simp
    try with_reducible rfl
  try simp only [Act.put, List.setIfInBounds_toArray, List.set_cons_zero, List.set_cons_succ]
  refine wpAnyH_take (i := 28) (oi := { dst := some 67, op := Op.load 23 (Operand.tmp 5), type := 23, pos := "law.go:73", after := #[], guard := none }) (v := ?_) rfl (by kernel_rfl) (by kernel_rfl) (by kernel_rfl) (fun _ _ _ h => h) (Or.inl ⟨by rfl, ?_⟩) hHeld ?_
  rotate_left
  · intro w hSw
    try dsimp only at hSw
    go_simp
    try with_reducible rfl
  try simp only [Act.put, List.setIfInBounds_toArray, List.set_cons_zero, List.set_cons_succ]
  refine wpAnyH_ready (rs := [9]) (by kernel_rfl) (by simp) ?_
  refine AllReadyH.cons (o := { dst := some 48, op := Op.call { callee := Callee.value (Operand.func 15), args := #[Operand.tmp 42, Operand.tmp 46, Operand.tmp 47], argTypes := #[23, 23, 23] }, type := 3, pos := "law.go:73", after := #[{ on := 3, ground := Ground.data }, { on := 7, ground := Ground.data }, { on := 8, ground := Ground.data }], guard := none }) rfl (fun K hK => ?_) (AllReadyH.nil)
  go_simp
  refine (turn_any a b p _).mono ?_; rintro e w_51 ⟨rfl, hb_51⟩
  try go_wp2_with fail
  refine hK.out _ _ (s7_on hHeld hb_51) (fun hHeld2 => ?_)
  clear hK K hHeld; have hHeld := hHeld2; clear hHeld2
  try simp only [Act.put, List.setIfInBounds_toArray, List.set_cons_zero, List.set_cons_succ]
  refine wpAnyH_ready (rs := [19]) (by kernel_rfl) (by simp) ?_
  refine AllReadyH.cons (o := { dst := some 58, op := Op.call { callee := Callee.value (Operand.func 15), args := #[Operand.tmp 52, Operand.tmp 56, Operand.tmp 57], argTypes := #[23, 23, 23] }, type := 3, pos := "law.go:73", after := #[{ on := 13, ground := Ground.data }, { on := 17, ground := Ground.data }, { on := 18, ground := Ground.data }, { on := 9, ground := Ground.chain }], guard := none }) rfl (fun K hK => ?_) (AllReadyH.nil)
  go_simp
  refine (turn_any b q p _).mono ?_; rintro e w_52 ⟨rfl, hb_52⟩
  try go_wp2_with fail
  refine hK.out _ _ (s7_on hHeld hb_52) (fun hHeld2 => ?_)
  clear hK K hHeld; have hHeld := hHeld2; clear hHeld2
  try simp only [Act.put, List.setIfInBounds_toArray, List.set_cons_zero, List.set_cons_succ]
  refine wpAnyH_ready (rs := [29]) (by kernel_rfl) (by simp) ?_
  refine AllReadyH.cons (o := { dst := some 68, op := Op.call { callee := Callee.value (Operand.func 15), args := #[Operand.tmp 62, Operand.tmp 66, Operand.tmp 67], argTypes := #[23, 23, 23] }, type := 3, pos := "law.go:73", after := #[{ on := 23, ground := Ground.data }, { on := 27, ground := Ground.data }, { on := 28, ground := Ground.data }, { on := 19, ground := Ground.chain }], guard := none }) rfl (fun K hK => ?_) (AllReadyH.nil)
  go_simp
  refine (turn_any q a p _).mono ?_; rintro e w_53 ⟨rfl, hb_53⟩
  try go_wp2_with fail
  refine hK.out _ _ (s7_on hHeld hb_53) (fun hHeld2 => ?_)
  clear hK K hHeld; have hHeld := hHeld2; clear hHeld2
  try simp only [Act.put, List.setIfInBounds_toArray, List.set_cons_zero, List.set_cons_succ]
  refine wpAnyH_take (i := 30) (oi := { dst := some 10, op := Op.assign (Operand.tmp 48), type := 3, pos := "law.go:73", after := #[{ on := 9, ground := Ground.data }, { on := 29, ground := Ground.chain }, { on := 0, ground := Ground.phase }, { on := 1, ground := Ground.phase }, { on := 2, ground := Ground.phase }, { on := 3, ground := Ground.phase }, { on := 4, ground := Ground.phase }, { on := 5, ground := Ground.phase }, { on := 6, ground := Ground.phase }, { on := 7, ground := Ground.phase }, { on := 8, ground := Ground.phase }, { on := 9, ground := Ground.phase }, { on := 10, ground := Ground.textOnly Departure.lateStores }, { on := 11, ground := Ground.textOnly Departure.lateStores }, { on := 12, ground := Ground.textOnly Departure.lateStores }, { on := 13, ground := Ground.textOnly Departure.lateStores }, { on := 14, ground := Ground.textOnly Departure.lateStores }, { on := 15, ground := Ground.textOnly Departure.lateStores }, { on := 16, ground := Ground.textOnly Departure.lateStores }, { on := 17, ground := Ground.textOnly Departure.lateStores }, { on := 18, ground := Ground.textOnly Departure.lateStores }, { on := 19, ground := Ground.textOnly Departure.lateStoresUnsure }, { on := 20, ground := Ground.textOnly Departure.lateStores }, { on := 21, ground := Ground.textOnly Departure.lateStores }, { on := 22, ground := Ground.textOnly Departure.lateStores }, { on := 23, ground := Ground.textOnly Departure.lateStores }, { on := 24, ground := Ground.textOnly Departure.lateStores }, { on := 25, ground := Ground.textOnly Departure.lateStores }, { on := 26, ground := Ground.textOnly Departure.lateStores }, { on := 27, ground := Ground.textOnly Departure.lateStores }, { on := 28, ground := Ground.textOnly Departure.lateStores }, { on := 29, ground := Ground.textOnly Departure.lateStoresUnsure }], guard := none }) (v := ?_) rfl (by kernel_rfl) (by kernel_rfl) (by kernel_rfl) (fun _ _ _ h => h) (Or.inl ⟨by rfl, ?_⟩) hHeld ?_
  rotate_left
  · intro w hSw
    try dsimp only at hSw
    go_simp
    try with_reducible rfl
  try simp only [Act.put, List.setIfInBounds_toArray, List.set_cons_zero, List.set_cons_succ]
  refine wpAnyH_take (i := 31) (oi := { dst := some 11, op := Op.assign (Operand.tmp 58), type := 3, pos := "law.go:73", after := #[{ on := 19, ground := Ground.data }, { on := 30, ground := Ground.chain }, { on := 0, ground := Ground.phase }, { on := 1, ground := Ground.phase }, { on := 2, ground := Ground.phase }, { on := 3, ground := Ground.phase }, { on := 4, ground := Ground.phase }, { on := 5, ground := Ground.phase }, { on := 6, ground := Ground.phase }, { on := 7, ground := Ground.phase }, { on := 8, ground := Ground.phase }, { on := 9, ground := Ground.phase }, { on := 10, ground := Ground.phase }, { on := 11, ground := Ground.phase }, { on := 12, ground := Ground.phase }, { on := 13, ground := Ground.phase }, { on := 14, ground := Ground.phase }, { on := 15, ground := Ground.phase }, { on := 16, ground := Ground.phase }, { on := 17, ground := Ground.phase }, { on := 18, ground := Ground.phase }, { on := 19, ground := Ground.phase }, { on := 20, ground := Ground.textOnly Departure.lateStores }, { on := 21, ground := Ground.textOnly Departure.lateStores }, { on := 22, ground := Ground.textOnly Departure.lateStores }, { on := 23, ground := Ground.textOnly Departure.lateStores }, { on := 24, ground := Ground.textOnly Departure.lateStores }, { on := 25, ground := Ground.textOnly Departure.lateStores }, { on := 26, ground := Ground.textOnly Departure.lateStores }, { on := 27, ground := Ground.textOnly Departure.lateStores }, { on := 28, ground := Ground.textOnly Departure.lateStores }, { on := 29, ground := Ground.textOnly Departure.lateStoresUnsure }, { on := 30, ground := Ground.phase }], guard := none }) (v := ?_) rfl (by kernel_rfl) (by kernel_rfl) (by kernel_rfl) (fun _ _ _ h => h) (Or.inl ⟨by rfl, ?_⟩) hHeld ?_
  rotate_left
  · intro w hSw
    try dsimp only at hSw
    go_simp
    try with_reducible rfl
  try simp only [Act.put, List.setIfInBounds_toArray, List.set_cons_zero, List.set_cons_succ]
  refine wpAnyH_take (i := 32) (oi := { dst := some 12, op := Op.assign (Operand.tmp 68), type := 3, pos := "law.go:73", after := #[{ on := 29, ground := Ground.data }, { on := 31, ground := Ground.chain }, { on := 0, ground := Ground.phase }, { on := 1, ground := Ground.phase }, { on := 2, ground := Ground.phase }, { on := 3, ground := Ground.phase }, { on := 4, ground := Ground.phase }, { on := 5, ground := Ground.phase }, { on := 6, ground := Ground.phase }, { on := 7, ground := Ground.phase }, { on := 8, ground := Ground.phase }, { on := 9, ground := Ground.phase }, { on := 10, ground := Ground.phase }, { on := 11, ground := Ground.phase }, { on := 12, ground := Ground.phase }, { on := 13, ground := Ground.phase }, { on := 14, ground := Ground.phase }, { on := 15, ground := Ground.phase }, { on := 16, ground := Ground.phase }, { on := 17, ground := Ground.phase }, { on := 18, ground := Ground.phase }, { on := 19, ground := Ground.phase }, { on := 20, ground := Ground.phase }, { on := 21, ground := Ground.phase }, { on := 22, ground := Ground.phase }, { on := 23, ground := Ground.phase }, { on := 24, ground := Ground.phase }, { on := 25, ground := Ground.phase }, { on := 26, ground := Ground.phase }, { on := 27, ground := Ground.phase }, { on := 28, ground := Ground.phase }, { on := 29, ground := Ground.phase }, { on := 30, ground := Ground.phase }, { on := 31, ground := Ground.phase }], guard := none }) (v := ?_) rfl (by kernel_rfl) (by kernel_rfl) (by kernel_rfl) (fun _ _ _ h => h) (Or.inl ⟨by rfl, ?_⟩) hHeld ?_
  rotate_left
  · intro w hSw
    try dsimp only at hSw
    go_simp
    try with_reducible rfl
  try simp only [Act.put, List.setIfInBounds_toArray, List.set_cons_zero, List.set_cons_succ]
  refine wpAnyH_done (by kernel_rfl) ?_ _
  obtain ⟨j1, jx, jy, j4, -⟩ := hHeld
  clear ZZ
  generalize turnV a b p = X at *
  generalize turnV b q p = Y at *
  generalize turnV q a p = Z at *
  generalize inB [a, b, q] p = I at *
  generalize edB [a, b, q] p = E at *
  have hEE : (E == E) = true := by cases E <;> rfl
  cases hX : (X != 0)
  · have hk := KEY.out
    rw [hX, Bool.false_and, Bool.false_or] at hk
    subst hk
    clear KEY
    go_wp2_with (first | refine wpList_row_g rfl 34 _ rfl _ rfl _ _ _ _ jx Try.underlying34 rfl (by kernel_rfl) ?_ | refine wpList_row_g rfl 23 _ rfl _ rfl _ _ _ _ jy Try.underlying23 rfl (by kernel_rfl) ?_)
    refine (nA _ j4).mono ?_; rintro e wa ⟨rfl, hba⟩
    have ja := j1.call hba
    replace jx := jx.below hba jx.lt; replace jy := jy.below hba jy.lt; replace j4 := pts_ca j4 hba
    go_wp2_with (first | refine wpList_row_g rfl 34 _ rfl _ rfl _ _ _ _ jx Try.underlying34 rfl (by kernel_rfl) ?_ | refine wpList_row_g rfl 23 _ rfl _ rfl _ _ _ _ jy Try.underlying23 rfl (by kernel_rfl) ?_)
    refine (eA _ j4).mono ?_; rintro e wb ⟨rfl, hbb⟩
    have jb := ja.call hbb
    go_wp2_with fail
    go_ret
    exact ⟨rfl, jb⟩
  cases hXY : (X == Y)
  · have hk := KEY.out
    rw [hXY, Bool.false_and, Bool.and_false, Bool.false_or] at hk
    subst hk
    clear KEY
    go_wp2_with (first | refine wpList_row_g rfl 34 _ rfl _ rfl _ _ _ _ jx Try.underlying34 rfl (by kernel_rfl) ?_ | refine wpList_row_g rfl 23 _ rfl _ rfl _ _ _ _ jy Try.underlying23 rfl (by kernel_rfl) ?_)
    refine (nA _ j4).mono ?_; rintro e wa ⟨rfl, hba⟩
    have ja := j1.call hba
    replace jx := jx.below hba jx.lt; replace jy := jy.below hba jy.lt; replace j4 := pts_ca j4 hba
    go_wp2_with (first | refine wpList_row_g rfl 34 _ rfl _ rfl _ _ _ _ jx Try.underlying34 rfl (by kernel_rfl) ?_ | refine wpList_row_g rfl 23 _ rfl _ rfl _ _ _ _ jy Try.underlying23 rfl (by kernel_rfl) ?_)
    refine (eA _ j4).mono ?_; rintro e wb ⟨rfl, hbb⟩
    have jb := ja.call hbb
    go_wp2_with fail
    go_ret
    exact ⟨rfl, jb⟩
  cases hYZ : (Y == Z)
  · have hk := KEY.out
    rw [hYZ, Bool.and_false, Bool.and_false, Bool.false_or] at hk
    subst hk
    clear KEY
    go_wp2_with (first | refine wpList_row_g rfl 34 _ rfl _ rfl _ _ _ _ jx Try.underlying34 rfl (by kernel_rfl) ?_ | refine wpList_row_g rfl 23 _ rfl _ rfl _ _ _ _ jy Try.underlying23 rfl (by kernel_rfl) ?_)
    refine (nA _ j4).mono ?_; rintro e wa ⟨rfl, hba⟩
    have ja := j1.call hba
    replace jx := jx.below hba jx.lt; replace jy := jy.below hba jy.lt; replace j4 := pts_ca j4 hba
    go_wp2_with (first | refine wpList_row_g rfl 34 _ rfl _ rfl _ _ _ _ jx Try.underlying34 rfl (by kernel_rfl) ?_ | refine wpList_row_g rfl 23 _ rfl _ rfl _ _ _ _ jy Try.underlying23 rfl (by kernel_rfl) ?_)
    refine (eA _ j4).mono ?_; rintro e wb ⟨rfl, hbb⟩
    have jb := ja.call hbb
    go_wp2_with fail
    go_ret
    exact ⟨rfl, jb⟩
  · have hk := KEY.out
    rw [hX, hXY, hYZ, Bool.and_self, Bool.and_self, Bool.true_or] at hk
    subst hk
    clear KEY
    go_wp2_with (first | refine wpList_row_g rfl 34 _ rfl _ rfl _ _ _ _ jx Try.underlying34 rfl (by kernel_rfl) ?_ | refine wpList_row_g rfl 23 _ rfl _ rfl _ _ _ _ jy Try.underlying23 rfl (by kernel_rfl) ?_)
    refine (nA _ j4).mono ?_; rintro e wa ⟨rfl, hba⟩
    have ja := j1.call hba
    replace jx := jx.below hba jx.lt; replace jy := jy.below hba jy.lt; replace j4 := pts_ca j4 hba
    go_wp2_with fail
    go_ret
    exact ⟨rfl, ja⟩
theorem cut_any (z : ByteArray) (A : Option Addr) (n c : Nat) (l : List P2) (p : P2) (f t : Int) (w : World) (hz : z.size ≤ maxLen) (hR : Pts w w.heap.size A n l) (hm : n ≤ maxLen) (hnc : n ≤ c) (hf : 0 ≤ f ∧ f ≤ 255) (ht : 0 ≤ t ∧ t ≤ 255) :
    Calls Try.prog 6 #[arV z A n c, p.V, .int .u8 f, .int .u8 t] w fun e w' => e = .returned (.bool true) ∧ Below w.heap.size w w' := by
  cases h1 : smV [⟨z, A, n, c, l⟩]
  · exact cut_early z A n c l p f t w hz hR hm hnc hf ht (.inl h1)
  cases h2 : arOk z l
  · exact cut_early z A n c l p f t w hz hR hm hnc hf ht (.inr (.inl ⟨h1, h2⟩))
  cases h3 : p.ok
  · exact cut_early z A n c l p f t w hz hR hm hnc hf ht (.inr (.inr ⟨h1, h2, h3⟩))
  by_cases h3n : n = 3
  · exact cut_tri z A n c l p f t w hz hR hm hnc hf ht h1 h2 h3 h3n
  · exact cut_main z A n c l p f t w hz hR hm hnc hf ht h1 h2 h3 h3n
end Go.Proofs.Ytoiccljmdplfgaa.Ar
