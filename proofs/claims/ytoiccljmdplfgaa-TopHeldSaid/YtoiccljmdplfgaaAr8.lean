/-
  AreaCut, WALKED.
-/
import Derived.Test.YtoiccljmdplfgaaAr7
namespace Go.Proofs.Ytoiccljmdplfgaa.Ar
open Go.ChangeShapes Go.WideShapes Go.ChangeAt Go.RowKit Go.Shelf
open Go.Proofs.Ytoiccljmdplfgaa
open Go.Proofs.Ytoiccljmdplfgaa.Wd
open Go.Proofs.Ytoiccljmdplfgaa.Pl
open Go.Proofs.Ytoiccljmdplfgaa.Nv
open Go.Proofs.Ytoiccljmdplfgaa.Ld
set_option linter.unusedVariables false
set_option linter.unusedSimpArgs false
attribute [local go_sem ↓] Go.wp_at_zero Go.wp_at_succ
attribute [local go_sem ↓] ldA_sem ldP_sem
attribute [local go_sem] ldSem_run
theorem cm_mk {w W : World} {ux uy ub uc n c gb nb cb gc nc cc : Nat} {z : ByteArray} {ad : Addr} {p : P2} {l lb lc : List P2} (iv : BI w W) (s1 : Pts W W.heap.size (some ad) n l) (s2 : Pts W W.heap.size (some ⟨gb, 0, none⟩) nb lb) (s3 : Pts W W.heap.size (some ⟨gc, 0, none⟩) nc lc) (hx : Blk W ux 34 (arA z (some ad) n c)) (hy : Blk W uy 23 p.A) (hb : Blk W ub 34 (arA z (some ⟨gb, 0, none⟩) nb cb)) (hc : Blk W uc 34 (arA z (some ⟨gc, 0, none⟩) nc cc)) :
    BI w W ∧ Pts W W.heap.size (some ad) n l ∧ Pts W W.heap.size (some ⟨gb, 0, none⟩) nb lb ∧ Pts W W.heap.size (some ⟨gc, 0, none⟩) nc lc ∧ Blk W ux 34 (arA z (some ad) n c) ∧ Blk W uy 23 p.A ∧ Blk W ub 34 (arA z (some ⟨gb, 0, none⟩) nb cb) ∧ Blk W uc 34 (arA z (some ⟨gc, 0, none⟩) nc cc) ∧ ldT 34 (.pointer (some ⟨ux, 0, none⟩)) W = some (arA z (some ad) n c) ∧ ldT 23 (.pointer (some ⟨uy, 0, none⟩)) W = some p.A ∧ ldT 34 (.pointer (some ⟨ub, 0, none⟩)) W = some (arA z (some ⟨gb, 0, none⟩) nb cb) ∧ ldT 34 (.pointer (some ⟨uc, 0, none⟩)) W = some (arA z (some ⟨gc, 0, none⟩) nc cc) :=
  ⟨iv, s1, s2, s3, hx, hy, hb, hc, ldT_of (ld_seg hx Try.underlying34 rfl (by kernel_rfl) (by kernel_rfl)), ldT_of (ld_seg hy Try.underlying23 rfl (by kernel_rfl) (by kernel_rfl)), ldT_of (ld_seg hb Try.underlying34 rfl (by kernel_rfl) (by kernel_rfl)), ldT_of (ld_seg hc Try.underlying34 rfl (by kernel_rfl) (by kernel_rfl))⟩
theorem cm_on {w W W2 : World} {ux uy ub uc n c gb nb cb gc nc cc : Nat} {z : ByteArray} {ad : Addr} {p : P2} {l lb lc : List P2} (h : BI w W ∧ Pts W W.heap.size (some ad) n l ∧ Pts W W.heap.size (some ⟨gb, 0, none⟩) nb lb ∧ Pts W W.heap.size (some ⟨gc, 0, none⟩) nc lc ∧ Blk W ux 34 (arA z (some ad) n c) ∧ Blk W uy 23 p.A ∧ Blk W ub 34 (arA z (some ⟨gb, 0, none⟩) nb cb) ∧ Blk W uc 34 (arA z (some ⟨gc, 0, none⟩) nc cc) ∧ ldT 34 (.pointer (some ⟨ux, 0, none⟩)) W = some (arA z (some ad) n c) ∧ ldT 23 (.pointer (some ⟨uy, 0, none⟩)) W = some p.A ∧ ldT 34 (.pointer (some ⟨ub, 0, none⟩)) W = some (arA z (some ⟨gb, 0, none⟩) nb cb) ∧ ldT 34 (.pointer (some ⟨uc, 0, none⟩)) W = some (arA z (some ⟨gc, 0, none⟩) nc cc)) (hbx : Below W.heap.size W W2) :
    BI w W2 ∧ Pts W2 W2.heap.size (some ad) n l ∧ Pts W2 W2.heap.size (some ⟨gb, 0, none⟩) nb lb ∧ Pts W2 W2.heap.size (some ⟨gc, 0, none⟩) nc lc ∧ Blk W2 ux 34 (arA z (some ad) n c) ∧ Blk W2 uy 23 p.A ∧ Blk W2 ub 34 (arA z (some ⟨gb, 0, none⟩) nb cb) ∧ Blk W2 uc 34 (arA z (some ⟨gc, 0, none⟩) nc cc) ∧ ldT 34 (.pointer (some ⟨ux, 0, none⟩)) W2 = some (arA z (some ad) n c) ∧ ldT 23 (.pointer (some ⟨uy, 0, none⟩)) W2 = some p.A ∧ ldT 34 (.pointer (some ⟨ub, 0, none⟩)) W2 = some (arA z (some ⟨gb, 0, none⟩) nb cb) ∧ ldT 34 (.pointer (some ⟨uc, 0, none⟩)) W2 = some (arA z (some ⟨gc, 0, none⟩) nc cc) := by
  obtain ⟨iv, s1, s2, s3, hx, hy, hb, hc, _⟩ := h
  exact cm_mk (iv.call hbx) (pts_ca s1 hbx) (pts_ca s2 hbx) (pts_ca s3 hbx) (hx.below hbx hx.lt) (hy.below hbx hy.lt) (hb.below hbx hb.lt) (hc.below hbx hc.lt)
theorem one_ar {w : World} {g n c : Nat} {A : Option Addr} {z : ByteArray} {l : List P2} {t : TypeId} (x : Blk w g t (arA z A n c)) (hR : Pts w w.heap.size A n l) (hz : z.size ≤ maxLen) (hm : n ≤ maxLen) :
    Calls Try.prog 19 #[.slice (some ⟨g, 0, none⟩) 1 1] w fun e w' => e = .returned (.int .i64 (if smV [⟨z, A, n, c, l⟩] = true then 1 else 0)) ∧ Below w.heap.size w w' :=
  small_any (some ⟨g, 0, none⟩) 1 1 [⟨z, A, n, c, l⟩] w (ars_of (L := [⟨z, A, n, c, l⟩]) x rfl (fun a ha => by rw [List.mem_singleton.1 ha]; exact ⟨hR, hz, hm⟩)) (show 1 ≤ maxLen by decide)
set_option maxRecDepth 100000 in
set_option maxHeartbeats 12800000 in
attribute [-go_sem] run_slice_l run_slice_h run_slice_lh run_slice_any in
theorem cut_early (z : ByteArray) (A : Option Addr) (n c : Nat) (l : List P2) (p : P2) (f t : Int) (w : World) (hz : z.size ≤ maxLen) (hR : Pts w w.heap.size A n l) (hm : n ≤ maxLen) (hnc : n ≤ c) (hf : 0 ≤ f ∧ f ≤ 255) (ht : 0 ≤ t ∧ t ≤ 255) (hbad : smV [⟨z, A, n, c, l⟩] = false ∨ (smV [⟨z, A, n, c, l⟩] = true ∧ arOk z l = false) ∨ (smV [⟨z, A, n, c, l⟩] = true ∧ arOk z l = true ∧ p.ok = false)) :
    Calls Try.prog 6 #[arV z A n c, p.V, .int .u8 f, .int .u8 t] w fun e w' => e = .returned (.bool true) ∧ Below w.heap.size w w' := by
  have i1 := ((BI.start w).alloc (.cells (arA z A n c) 34)).alloc (.cells p.A 23)
  have x1 := (Blk.new w 34 (arA z A n c)).alloc (.cells p.A 23)
  have y1 := blk_at (w.alloc (.cells (arA z A n c) 34)) 23 p.A (sz1 _ _ rfl)
  have hsm := fun W (i : BI w W) => one_ar (Blk.new W 34 (arA z A n c)) (pts_al (Pts.more (hR.below i.b) i.b.size) (.cells (arA z A n c) 34)) hz hm
  have hck := fun W (i : BI w W) => acheck_any z A n c w.heap.size l W hz (hR.below i.b) i.b.size hm
  have hpc := fun W => check_any p W
  rcases hbad with h1 | ⟨h1, h2⟩ | ⟨h1, h2, h3⟩
  · rw [h1] at hsm
    simp only [Bool.false_eq_true, if_false] at hsm
    clear h1
    go_enter Try.func6, Try.ntmps6
    go_wp2_with fail
    refine (lives44_any _).mono ?_; rintro e w2 ⟨rfl, hb2⟩
    have i2 := i1.call hb2
    have x2 := x1.below hb2 x1.lt
    have y2 := y1.below hb2 y1.lt
    clear i1 x1 y1 hb2
    go_wp2_with (first | refine wpList_row_g rfl 34 _ rfl _ rfl _ _ _ _ x2 Try.underlying34 rfl (by kernel_rfl) ?_)
    refine (hsm _ i2).mono ?_; rintro e w3 ⟨rfl, hb3⟩
    have i3 := (i2.alloc (.cells (arA z A n c) 34)).call hb3
    have x3 := (x2.alloc (.cells (arA z A n c) 34)).below hb3 (x2.alloc (.cells (arA z A n c) 34)).lt
    have y3 := (y2.alloc (.cells (arA z A n c) 34)).below hb3 (y2.alloc (.cells (arA z A n c) 34)).lt
    clear i2 x2 y2 hb3
    go_wp2_with fail
    go_ret
    exact ⟨rfl, i3⟩
  · rw [h1] at hsm
    simp only [if_true] at hsm
    rw [arE_no h2] at hck
    clear h1 h2
    go_enter Try.func6, Try.ntmps6
    go_wp2_with fail
    refine (lives44_any _).mono ?_; rintro e w2 ⟨rfl, hb2⟩
    have i2 := i1.call hb2
    have x2 := x1.below hb2 x1.lt
    have y2 := y1.below hb2 y1.lt
    clear i1 x1 y1 hb2
    go_wp2_with (first | refine wpList_row_g rfl 34 _ rfl _ rfl _ _ _ _ x2 Try.underlying34 rfl (by kernel_rfl) ?_)
    refine (hsm _ i2).mono ?_; rintro e w3 ⟨rfl, hb3⟩
    have i3 := (i2.alloc (.cells (arA z A n c) 34)).call hb3
    have x3 := (x2.alloc (.cells (arA z A n c) 34)).below hb3 (x2.alloc (.cells (arA z A n c) 34)).lt
    have y3 := (y2.alloc (.cells (arA z A n c) 34)).below hb3 (y2.alloc (.cells (arA z A n c) 34)).lt
    clear i2 x2 y2 hb3
    go_wp2_with (first | refine wpList_row_g rfl 34 _ rfl _ rfl _ _ _ _ x3 Try.underlying34 rfl (by kernel_rfl) ?_)
    refine (hck _ i3).mono ?_; rintro e w4 ⟨rfl, hb4⟩
    have i4 := i3.call hb4
    have x4 := x3.below hb4 x3.lt
    have y4 := y3.below hb4 y3.lt
    clear i3 x3 y3 hb4
    go_wp2_with fail
    go_ret
    exact ⟨rfl, i4⟩
  · rw [h1] at hsm
    simp only [if_true] at hsm
    rw [arE_yes h2] at hck
    have hv : (chkV p != 0) = true := by unfold chkV; rw [h3]; rfl
    clear h1 h2 h3
    go_enter Try.func6, Try.ntmps6
    go_wp2_with fail
    refine (lives44_any _).mono ?_; rintro e w2 ⟨rfl, hb2⟩
    have i2 := i1.call hb2
    have x2 := x1.below hb2 x1.lt
    have y2 := y1.below hb2 y1.lt
    clear i1 x1 y1 hb2
    go_wp2_with (first | refine wpList_row_g rfl 34 _ rfl _ rfl _ _ _ _ x2 Try.underlying34 rfl (by kernel_rfl) ?_)
    refine (hsm _ i2).mono ?_; rintro e w3 ⟨rfl, hb3⟩
    have i3 := (i2.alloc (.cells (arA z A n c) 34)).call hb3
    have x3 := (x2.alloc (.cells (arA z A n c) 34)).below hb3 (x2.alloc (.cells (arA z A n c) 34)).lt
    have y3 := (y2.alloc (.cells (arA z A n c) 34)).below hb3 (y2.alloc (.cells (arA z A n c) 34)).lt
    clear i2 x2 y2 hb3
    go_wp2_with (first | refine wpList_row_g rfl 34 _ rfl _ rfl _ _ _ _ x3 Try.underlying34 rfl (by kernel_rfl) ?_)
    refine (hck _ i3).mono ?_; rintro e w4 ⟨rfl, hb4⟩
    have i4 := i3.call hb4
    have x4 := x3.below hb4 x3.lt
    have y4 := y3.below hb4 y3.lt
    clear i3 x3 y3 hb4
    go_wp2_with (first | refine wpList_row_g rfl 23 _ rfl _ rfl _ _ _ _ y4 Try.underlying23 rfl (by kernel_rfl) ?_)
    refine (hpc _).mono ?_; rintro e w5 ⟨rfl, hb5⟩
    have i5 := i4.call hb5
    have x5 := x4.below hb5 x4.lt
    have y5 := y4.below hb5 y4.lt
    clear i4 x4 y4 hb5
    go_wp2_with fail
    go_ret
    exact ⟨rfl, i5⟩
set_option maxRecDepth 100000 in
set_option maxHeartbeats 12800000 in
attribute [-go_sem] run_slice_l run_slice_h run_slice_lh run_slice_any in
theorem cut_main (z : ByteArray) (A : Option Addr) (n c : Nat) (l : List P2) (p : P2) (f t : Int) (w : World) (hz : z.size ≤ maxLen) (hR : Pts w w.heap.size A n l) (hm : n ≤ maxLen) (hnc : n ≤ c) (hf : 0 ≤ f ∧ f ≤ 255) (ht : 0 ≤ t ∧ t ≤ 255) (h1 : smV [⟨z, A, n, c, l⟩] = true) (h2 : arOk z l = true) (h3 : p.ok = true) (hne : n ≠ 3) :
    Calls Try.prog 6 #[arV z A n c, p.V, .int .u8 f, .int .u8 t] w fun e w' => e = .returned (.bool true) ∧ Below w.heap.size w w' := by
  have i1 := ((BI.start w).alloc (.cells (arA z A n c) 34)).alloc (.cells p.A 23)
  have x1 := (Blk.new w 34 (arA z A n c)).alloc (.cells p.A 23)
  have y1 := blk_at (w.alloc (.cells (arA z A n c) 34)) 23 p.A (sz1 _ _ rfl)
  have hsm := fun W (i : BI w W) => one_ar (Blk.new W 34 (arA z A n c)) (pts_al (Pts.more (hR.below i.b) i.b.size) (.cells (arA z A n c) 34)) hz hm
  have hck := fun W (i : BI w W) => acheck_any z A n c w.heap.size l W hz (hR.below i.b) i.b.size hm
  have hpc := fun W => check_any p W
  rw [h1] at hsm
  simp only [if_true] at hsm
  rw [arE_yes h2] at hck
  have hv : (chkV p != 0) = false := by unfold chkV; rw [h3]; rfl
  have hn3 : 3 ≤ n ∧ n ≤ 40 := by
    have q1 := (ar_iff.1 h2).2.1
    have q2 := hR.1
    have q3 : n ≤ 40 := by
      unfold smV at h1
      simp at h1
      exact h1.1
    omega
  obtain ⟨ad, rfl, -⟩ := hR.row (k := 0) (by omega) (by rw [hR.1]; omega)
  have hrt : rtB z l p = true := by unfold rtB; rw [h2, h3]; rfl
  have hll := hR.1
  obtain ⟨i0, hi0⟩ : ∃ i0 : Nat, f.tmod (n : Int) = (i0 : Int) := ⟨(f % n).toNat, by rw [Int.tmod_eq_emod_of_nonneg hf.1]; have := Int.emod_nonneg f (show (n : Int) ≠ 0 by omega); omega⟩
  obtain ⟨k0, hk0⟩ : ∃ k0 : Nat, t.tmod (n : Int) = (k0 : Int) := ⟨(t % n).toNat, by rw [Int.tmod_eq_emod_of_nonneg ht.1]; have := Int.emod_nonneg t (show (n : Int) ≠ 0 by omega); omega⟩
  have hi1 : i0 < n := by rw [Int.tmod_eq_emod_of_nonneg hf.1] at hi0; have := Int.emod_lt_of_pos f (show 0 < (n : Int) by omega); omega
  have hk1 : k0 < n := by rw [Int.tmod_eq_emod_of_nonneg ht.1] at hk0; have := Int.emod_lt_of_pos t (show 0 < (n : Int) by omega); omega
  have HCUT := Lib.hid (fun i k a b c => cut_law (z := z) (l := l) (i := i) (k := k) h2 a b c p)
  have HOK := Lib.hid (fun i k a b c => cut_ok (z := z) (l := l) (i := i) (k := k) h2 a b c)
  have HAOK := Lib.hid h2
  have HPOK := Lib.hid h3
  have HI0 := Lib.hid hi0; have HK0 := Lib.hid hk0
  obtain ⟨i0i, hi0', hz0, hz1, hz2⟩ := info_parts pt_info
  have HI := Lib.hid hi0'
  have hnb : ((n : Int) == 3) = false := by simp; omega
  clear h1 h2 h3 hi0 hk0 hi0'
  go_enter Try.func6, Try.ntmps6
  go_wp2_with fail
  refine (lives44_any _).mono ?_; rintro e w2 ⟨rfl, hb2⟩
  have i2 := i1.call hb2
  have x2 := x1.below hb2 x1.lt
  have y2 := y1.below hb2 y1.lt
  clear i1 x1 y1 hb2
  go_wp2_with (first | refine wpList_row_g rfl 34 _ rfl _ rfl _ _ _ _ x2 Try.underlying34 rfl (by kernel_rfl) ?_)
  refine (hsm _ i2).mono ?_; rintro e w3 ⟨rfl, hb3⟩
  have i3 := (i2.alloc (.cells (arA z (some ad) n c) 34)).call hb3
  have x3 := (x2.alloc (.cells (arA z (some ad) n c) 34)).below hb3 (x2.alloc (.cells (arA z (some ad) n c) 34)).lt
  have y3 := (y2.alloc (.cells (arA z (some ad) n c) 34)).below hb3 (y2.alloc (.cells (arA z (some ad) n c) 34)).lt
  clear i2 x2 y2 hb3
  go_wp2_with (first | refine wpList_row_g rfl 34 _ rfl _ rfl _ _ _ _ x3 Try.underlying34 rfl (by kernel_rfl) ?_)
  refine (hck _ i3).mono ?_; rintro e w4 ⟨rfl, hb4⟩
  have i4 := i3.call hb4
  have x4 := x3.below hb4 x3.lt
  have y4 := y3.below hb4 y3.lt
  clear i3 x3 y3 hb4
  go_wp2_with (first | refine wpList_row_g rfl 23 _ rfl _ rfl _ _ _ _ y4 Try.underlying23 rfl (by kernel_rfl) ?_)
  refine (hpc _).mono ?_; rintro e w5 ⟨rfl, hb5⟩
  have i5 := i4.call hb5
  have x5 := x4.below hb5 x4.lt
  have y5 := y4.below hb5 y4.lt
  clear i4 x4 y4 hb5
  have d1 : w5.cell? ⟨w.heap.size, 1, none⟩ = some (.slice (some ad) n c) := x5.cell 1
  clear hsm hck hpc
  go_upto_region 10 with fail
  have hi0 := HI0.out; have hk0 := HK0.out
  have hf1 : IntKind.i64.wrap f = f := by simp [IntKind.wrap, IntKind.bits, IntKind.signed]; omega
  have ht1 : IntKind.i64.wrap t = t := by simp [IntKind.wrap, IntKind.bits, IntKind.signed]; omega
  have hi9 : IntKind.i64.wrap (i0 : Int) = (i0 : Int) := by simp [IntKind.wrap, IntKind.bits, IntKind.signed]; omega
  have hk9 : IntKind.i64.wrap (k0 : Int) = (k0 : Int) := by simp [IntKind.wrap, IntKind.bits, IntKind.signed]; omega
  have hn0 : ¬ n = 0 := by omega
  have hn00 : ¬ (n : Int) = 0 := by omega
  refine wp_region_held_drew (S := fun w' => w'.cell? ⟨w.heap.size, 1, none⟩ = some (.slice (some ad) n c)) (by kernel_rfl) (x5.cell 1) (fun hHeld => ?_)
  refine wpAnyH_take (i := 0) (oi := { dst := some 91, op := Op.move (Operand.tmp 2), type := 5, pos := "law.go:77", after := #[], guard := none }) (v := ?_) rfl (by kernel_rfl) (by kernel_rfl) (by kernel_rfl) (fun _ _ _ h => h) (Or.inl ⟨by rfl, ?_⟩) hHeld ?_
  rotate_left
  · intro w hSw
    try dsimp only at hSw
    go_simp
    try with_reducible rfl
  try simp only [Act.put, List.setIfInBounds_toArray, List.set_cons_zero, List.set_cons_succ]
  refine wpAnyH_take (i := 1) (oi := { dst := some 92, op := Op.convert 5 3 (Operand.tmp 91), type := 3, pos := "law.go:77", after := #[{ on := 0, ground := Ground.data }], guard := none }) (v := ?_) rfl (by kernel_rfl) (by kernel_rfl) (by kernel_rfl) (fun _ _ _ h => h) (Or.inl ⟨by rfl, ?_⟩) hHeld ?_
  rotate_left
  · intro w hSw
    try dsimp only at hSw
    go_simp
    try with_reducible rfl
  try simp only [Act.put, List.setIfInBounds_toArray, List.set_cons_zero, List.set_cons_succ]
  refine wpAnyH_take (i := 2) (oi := { dst := some 93, op := Op.move (Operand.tmp 9), type := 3, pos := "law.go:77", after := #[], guard := none }) (v := ?_) rfl (by kernel_rfl) (by kernel_rfl) (by kernel_rfl) (fun _ _ _ h => h) (Or.inl ⟨by rfl, ?_⟩) hHeld ?_
  rotate_left
  · intro w hSw
    try dsimp only at hSw
    go_simp
    try with_reducible rfl
  try simp only [Act.put, List.setIfInBounds_toArray, List.set_cons_zero, List.set_cons_succ]
  refine wpAnyH_take (i := 3) (oi := { dst := some 94, op := Op.binOp BinOp.rem 3 (Operand.tmp 92) (Operand.tmp 93) 3, type := 3, pos := "law.go:77", after := #[{ on := 1, ground := Ground.data }, { on := 2, ground := Ground.data }], guard := none }) (v := ?_) rfl (by kernel_rfl) (by kernel_rfl) (by kernel_rfl) (fun _ _ _ h => h) (Or.inl ⟨by rfl, ?_⟩) hHeld ?_
  rotate_left
  · intro w hSw
    try dsimp only at hSw
    go_simp
    try with_reducible rfl
  try simp only [Act.put, List.setIfInBounds_toArray, List.set_cons_zero, List.set_cons_succ]
  refine wpAnyH_take (i := 4) (oi := { dst := some 95, op := Op.move (Operand.tmp 3), type := 5, pos := "law.go:77", after := #[{ on := 8, ground := Ground.gcOnly Departure.lateStores }], guard := none }) (v := ?_) rfl (by kernel_rfl) (by kernel_rfl) (by kernel_rfl) (fun _ _ _ h => h) (Or.inl ⟨by rfl, ?_⟩) hHeld ?_
  rotate_left
  · intro w hSw
    try dsimp only at hSw
    go_simp
    try with_reducible rfl
  try simp only [Act.put, List.setIfInBounds_toArray, List.set_cons_zero, List.set_cons_succ]
  refine wpAnyH_take (i := 5) (oi := { dst := some 96, op := Op.convert 5 3 (Operand.tmp 95), type := 3, pos := "law.go:77", after := #[{ on := 4, ground := Ground.data }, { on := 8, ground := Ground.gcOnly Departure.lateStores }], guard := none }) (v := ?_) rfl (by kernel_rfl) (by kernel_rfl) (by kernel_rfl) (fun _ _ _ h => h) (Or.inl ⟨by rfl, ?_⟩) hHeld ?_
  rotate_left
  · intro w hSw
    try dsimp only at hSw
    go_simp
    try with_reducible rfl
  try simp only [Act.put, List.setIfInBounds_toArray, List.set_cons_zero, List.set_cons_succ]
  refine wpAnyH_take (i := 6) (oi := { dst := some 97, op := Op.move (Operand.tmp 9), type := 3, pos := "law.go:77", after := #[{ on := 8, ground := Ground.gcOnly Departure.lateStores }], guard := none }) (v := ?_) rfl (by kernel_rfl) (by kernel_rfl) (by kernel_rfl) (fun _ _ _ h => h) (Or.inl ⟨by rfl, ?_⟩) hHeld ?_
  rotate_left
  · intro w hSw
    try dsimp only at hSw
    go_simp
    try with_reducible rfl
  try simp only [Act.put, List.setIfInBounds_toArray, List.set_cons_zero, List.set_cons_succ]
  refine wpAnyH_take (i := 7) (oi := { dst := some 98, op := Op.binOp BinOp.rem 3 (Operand.tmp 96) (Operand.tmp 97) 3, type := 3, pos := "law.go:77", after := #[{ on := 5, ground := Ground.data }, { on := 6, ground := Ground.data }, { on := 8, ground := Ground.gcOnly Departure.lateStores }], guard := none }) (v := ?_) rfl (by kernel_rfl) (by kernel_rfl) (by kernel_rfl) (fun _ _ _ h => h) (Or.inl ⟨by rfl, ?_⟩) hHeld ?_
  rotate_left
  · intro w hSw
    try dsimp only at hSw
    go_simp
    try with_reducible rfl
  try simp only [Act.put, List.setIfInBounds_toArray, List.set_cons_zero, List.set_cons_succ]
  refine wpAnyH_take (i := 8) (oi := { dst := some 14, op := Op.assign (Operand.tmp 94), type := 3, pos := "law.go:77", after := #[{ on := 3, ground := Ground.data }, { on := 0, ground := Ground.phase }, { on := 1, ground := Ground.phase }, { on := 2, ground := Ground.phase }, { on := 3, ground := Ground.phase }, { on := 4, ground := Ground.textOnly Departure.lateStores }, { on := 5, ground := Ground.textOnly Departure.lateStores }, { on := 6, ground := Ground.textOnly Departure.lateStores }, { on := 7, ground := Ground.textOnly Departure.lateStores }], guard := none }) (v := ?_) rfl (by kernel_rfl) (by kernel_rfl) (by kernel_rfl) (fun _ _ _ h => h) (Or.inl ⟨by rfl, ?_⟩) hHeld ?_
  rotate_left
  · intro w hSw
    try dsimp only at hSw
    go_simp
    try with_reducible rfl
  try simp only [Act.put, List.setIfInBounds_toArray, List.set_cons_zero, List.set_cons_succ]
  refine wpAnyH_take (i := 9) (oi := { dst := some 15, op := Op.assign (Operand.tmp 98), type := 3, pos := "law.go:77", after := #[{ on := 7, ground := Ground.data }, { on := 8, ground := Ground.chain }, { on := 0, ground := Ground.phase }, { on := 1, ground := Ground.phase }, { on := 2, ground := Ground.phase }, { on := 3, ground := Ground.phase }, { on := 4, ground := Ground.phase }, { on := 5, ground := Ground.phase }, { on := 6, ground := Ground.phase }, { on := 7, ground := Ground.phase }, { on := 8, ground := Ground.phase }], guard := none }) (v := ?_) rfl (by kernel_rfl) (by kernel_rfl) (by kernel_rfl) (fun _ _ _ h => h) (Or.inl ⟨by rfl, ?_⟩) hHeld ?_
  rotate_left
  · intro w hSw
    try dsimp only at hSw
    go_simp
    try with_reducible rfl
  try simp only [Act.put, List.setIfInBounds_toArray, List.set_cons_zero, List.set_cons_succ]
  refine wpAnyH_done (by kernel_rfl) ?_ _
  clear hHeld
  have x6 := x5.drew; have y6 := y5.drew; have i6 := i5.drew
  clear x5 y5 i5 d1 hi0 hk0 hf1 ht1 hi9 hk9 hn0 hn00
  go_upto_if 101 with fail
  go_cut [14, 15] (fun v14 v15 wx => ∃ i k : Nat, v14 = .int .i64 i ∧ v15 = .int .i64 k ∧ i ≤ k ∧ k < n ∧ Blk wx w.heap.size 34 (arA z (some ad) n c) ∧ Blk wx (w.heap.size + 1) 23 p.A ∧ BI w wx)
  case first =>
    by_cases hgt : (k0 : Int) < (i0 : Int)
    · go_wp2_with fail
      go_meet
      exact ⟨k0, i0, rfl, rfl, by omega, hi1, x6, y6, i6⟩
    · go_wp2_with fail
      go_meet
      exact ⟨i0, k0, rfl, rfl, by omega, hk1, x6, y6, i6⟩
  case rest =>
  clear x6 y6 i6 hi1 hk1 HI0 HK0
  clear i0 k0
  obtain ⟨i, k, rfl, rfl, hik, hkn, x7, y7, i7⟩ := hcut
  obtain ⟨W1, rfl⟩ : ∃ W : World, W = wc := ⟨_, rfl⟩
  by_cases g1 : (k : Int) - (i : Int) < 2
  · go_wp2_with fail
    go_ret
    exact ⟨rfl, i7⟩
  by_cases g2 : (n : Int) - 2 < (k : Int) - (i : Int)
  · go_wp2_with fail
    go_ret
    exact ⟨rfl, i7⟩
  have hik1 : i + (k - i + 1) ≤ n := by omega
  have q1 : i + 2 ≤ k := by omega
  have q2 : k < l.length := by omega
  have q3 : k - i + 2 ≤ l.length := by omega
  obtain ⟨o1, o2⟩ := HOK.out i k q1 q2 q3
  obtain ⟨hS, hIL⟩ := HCUT.out i k q1 q2 q3
  have HIL := Lib.hid hIL; clear hIL
  have sA := sz_ok HAOK.out; have sB := sz_ok o1; have sC := sz_ok o2
  have rB : rtB z (cutB l i k) p = true := by unfold rtB; rw [o1, HPOK.out]; rfl
  have rC : rtB z (cutC l i k) p = true := by unfold rtB; rw [o2, HPOK.out]; rfl
  have hw : IntKind.i64.wrap (szV z (cutB l i k) + szV z (cutC l i k)) = szV z l := by rw [hS]; simp [IntKind.wrap, IntKind.bits, IntKind.signed]; omega
  have HW := Lib.hid hw
  have r15 : ∀ W, (Instr.slice 32 (.slice (some ad) n c) (some (.int .i64 i)) (some (.int .i64 ((k : Int) + 1))) none).run Try.prog W = .ok (.slice (some (ad.add (i * 2))) (k - i + 1) (c - i)) W := fun W => by
    have := run_sub ad n c i (k + 1) (by omega) (by omega) (by omega) W
    rw [show k + 1 - i = k - i + 1 by omega] at this
    simpa using this
  have r16a := run_from ad n c k (by omega) (by omega)
  have r16b : ∀ W, (Instr.slice 32 (.slice (some ad) n c) none (some (.int .i64 ((i : Int) + 1))) none).run Try.prog W = .ok (.slice (some ad) (i + 1) c) W := fun W => by
    have := run_to ad n c (i + 1) (by omega) W
    simpa using this
  have w1 : IntKind.i64.wrap ((k : Int) + 1) = (k : Int) + 1 := by simp [IntKind.wrap, IntKind.bits, IntKind.signed]; omega
  have w2' : IntKind.i64.wrap ((i : Int) + 1) = (i : Int) + 1 := by simp [IntKind.wrap, IntKind.bits, IntKind.signed]; omega
  have hlB := cutB_len (l := l) hik q2
  have hlC := cutC_len (l := l) hik q2
  rw [hll] at hlC
  have HS := Lib.hid hS; have HSA := Lib.hid sA
  clear hS hw sA sB sC o1 o2 g1 g2 hne
  go_upto_region 15 with fail
  obtain ⟨W0, rfl⟩ : ∃ W0 : World, W0 = W1 := ⟨_, rfl⟩
  have x0 : Blk W0.drew w.heap.size 34 (arA z (some ad) n c) := x7
  have y0 : Blk W0.drew (w.heap.size + 1) 23 p.A := y7
  have iv0 : BI w W0.drew := i7.drew
  have jv0 := BI.start W0.drew
  clear x7 y7 i7
  go_cut [16] (fun v wx => ∃ (ub gb cb : Nat), v = .pointer (some ⟨ub, 0, none⟩) ∧ Blk wx w.heap.size 34 (arA z (some ad) n c) ∧ Blk wx (w.heap.size + 1) 23 p.A ∧ BI w wx ∧ Blk wx ub 34 (arA z (some ⟨gb, 0, none⟩) (k - i + 1) cb) ∧ Pts wx wx.heap.size (some ⟨gb, 0, none⟩) (k - i + 1) (cutB l i k))
  case first =>
    refine wp_region_held_drew (S := fun w' => w'.cell? ⟨w.heap.size, 0, none⟩ = some (.string z) ∧ w'.cell? ⟨w.heap.size, 1, none⟩ = some (.slice (some ad) n c)) (by kernel_rfl) (⟨x0.cell 0, x0.cell 1⟩) (fun hHeld => ?_)
    refine wpAnyH_take (i := 0) (oi := { dst := some 116, op := Op.fieldAddr 34 (Operand.tmp 4) 0, type := 0, pos := "law.go:84", after := #[], guard := none }) (v := ?_) rfl (by kernel_rfl) (by kernel_rfl) (by kernel_rfl) (fun _ _ _ h => h) (Or.inl ⟨by rfl, ?_⟩) hHeld ?_
    rotate_left
    · intro w hSw
      try dsimp only at hSw
      go_simp
      try with_reducible rfl
    try simp only [Act.put, List.setIfInBounds_toArray, List.set_cons_zero, List.set_cons_succ]
    refine wpAnyH_take (i := 1) (oi := { dst := some 117, op := Op.load 9 (Operand.tmp 116), type := 9, pos := "law.go:84", after := #[{ on := 0, ground := Ground.data }], guard := none }) (v := ?_) rfl (by kernel_rfl) (by kernel_rfl) (by kernel_rfl) (fun _ _ _ h => h) (Or.inl ⟨by rfl, ?_⟩) hHeld ?_
    rotate_left
    · intro w hSw
      try dsimp only at hSw
      go_simp
      try with_reducible rfl
    try simp only [Act.put, List.setIfInBounds_toArray, List.set_cons_zero, List.set_cons_succ]
    refine wpAnyH_take (i := 3) (oi := { dst := some 119, op := Op.fieldAddr 34 (Operand.tmp 4) 1, type := 0, pos := "law.go:84", after := #[], guard := none }) (v := ?_) rfl (by kernel_rfl) (by kernel_rfl) (by kernel_rfl) (fun _ _ _ h => h) (Or.inl ⟨by rfl, ?_⟩) hHeld ?_
    rotate_left
    · intro w hSw
      try dsimp only at hSw
      go_simp
      try with_reducible rfl
    try simp only [Act.put, List.setIfInBounds_toArray, List.set_cons_zero, List.set_cons_succ]
    refine wpAnyH_take (i := 4) (oi := { dst := some 120, op := Op.load 32 (Operand.tmp 119), type := 32, pos := "law.go:84", after := #[{ on := 3, ground := Ground.data }], guard := none }) (v := ?_) rfl (by kernel_rfl) (by kernel_rfl) (by kernel_rfl) (fun _ _ _ h => h) (Or.inl ⟨by rfl, ?_⟩) hHeld ?_
    rotate_left
    · intro w hSw
      try dsimp only at hSw
      go_simp
      try with_reducible rfl
    try simp only [Act.put, List.setIfInBounds_toArray, List.set_cons_zero, List.set_cons_succ]
    refine wpAnyH_take (i := 5) (oi := { dst := some 121, op := Op.move (Operand.tmp 14), type := 3, pos := "law.go:84", after := #[], guard := none }) (v := ?_) rfl (by kernel_rfl) (by kernel_rfl) (by kernel_rfl) (fun _ _ _ h => h) (Or.inl ⟨by rfl, ?_⟩) hHeld ?_
    rotate_left
    · intro w hSw
      try dsimp only at hSw
      go_simp
      try with_reducible rfl
    try simp only [Act.put, List.setIfInBounds_toArray, List.set_cons_zero, List.set_cons_succ]
    refine wpAnyH_take (i := 6) (oi := { dst := some 122, op := Op.move (Operand.tmp 15), type := 3, pos := "law.go:84", after := #[], guard := none }) (v := ?_) rfl (by kernel_rfl) (by kernel_rfl) (by kernel_rfl) (fun _ _ _ h => h) (Or.inl ⟨by rfl, ?_⟩) hHeld ?_
    rotate_left
    · intro w hSw
      try dsimp only at hSw
      go_simp
      try with_reducible rfl
    try simp only [Act.put, List.setIfInBounds_toArray, List.set_cons_zero, List.set_cons_succ]
    refine wpAnyH_take (i := 7) (oi := { dst := some 123, op := Op.binOp BinOp.add 3 (Operand.tmp 122) (Operand.const (Value.int IntKind.i64 1)) 3, type := 3, pos := "law.go:84", after := #[{ on := 6, ground := Ground.data }], guard := none }) (v := ?_) rfl (by kernel_rfl) (by kernel_rfl) (by kernel_rfl) (fun _ _ _ h => h) (Or.inl ⟨by rfl, ?_⟩) hHeld ?_
    rotate_left
    · intro w hSw
      try dsimp only at hSw
      go_simp
      try with_reducible rfl
    try simp only [Act.put, List.setIfInBounds_toArray, List.set_cons_zero, List.set_cons_succ]
    refine wpAnyH_take (i := 8) (oi := { dst := some 124, op := Op.slice 32 (Operand.tmp 120) (some (Operand.tmp 121)) (some (Operand.tmp 123)) none, type := 32, pos := "law.go:84", after := #[{ on := 4, ground := Ground.data }, { on := 5, ground := Ground.data }, { on := 7, ground := Ground.data }], guard := none }) (v := ?_) rfl (by kernel_rfl) (by kernel_rfl) (by kernel_rfl) (fun _ _ _ h => h) (Or.inl ⟨by rfl, ?_⟩) hHeld ?_
    rotate_left
    · intro w hSw
      try dsimp only at hSw
      go_simp
      try with_reducible rfl
    try simp only [Act.put, List.setIfInBounds_toArray, List.set_cons_zero, List.set_cons_succ]
    refine wpAnyH_ready (rs := [2, 11]) (by kernel_rfl) (by simp) ?_
    refine AllReadyH.cons (o := { dst := some 118, op := Op.buildSlice 32 0 #[], type := 32, pos := "law.go:84", after := #[], guard := none }) rfl (fun K hK => ?_) (AllReadyH.cons (o := { dst := some 16, op := Op.alloc 34, type := 0, pos := "law.go:84", after := #[], guard := none }) rfl (fun K hK => ?_) (AllReadyH.nil))
    · skip
      go_simp
      have own_1 := own_x (base := W0.drew.heap.size) (W0.drew) (Nat.le_refl W0.drew.heap.size)
      have iv_1 := iv0.alloc (.cells (#[] : Array Value) 23)
      have jv_1 := jv0.alloc (.cells (#[] : Array Value) 23)
      have x_1 := x0.alloc (.cells (#[] : Array Value) 23)
      have y_1 := y0.alloc (.cells (#[] : Array Value) 23)
      have sz_1 : W0.drew.heap.size ≤ ((W0.drew).alloc (.cells (#[] : Array Value) 23)).heap.size := by rw [sz1 _ _ rfl]; exact Nat.le_succ_of_le (Nat.le_refl W0.drew.heap.size)
      refine hK.out _ _ (⟨x_1.cell 0, x_1.cell 1⟩) (fun hHeld2 => ?_)
      clear hK K hHeld; have hHeld := hHeld2; clear hHeld2
      try simp only [Act.put, List.setIfInBounds_toArray, List.set_cons_zero, List.set_cons_succ]
      refine wpAnyH_ready (rs := [9, 11]) (by kernel_rfl) (by simp) ?_
      refine AllReadyH.cons (o := { dst := some 125, op := Op.call { callee := Callee.builtin Builtin.append, args := #[Operand.tmp 118, Operand.tmp 124], argTypes := #[32, 32] }, type := 32, pos := "law.go:84", after := #[{ on := 2, ground := Ground.data }, { on := 8, ground := Ground.data }], guard := none }) rfl (fun K hK => ?_) (AllReadyH.cons (o := { dst := some 16, op := Op.alloc 34, type := 0, pos := "law.go:84", after := #[], guard := none }) rfl (fun K hK => ?_) (AllReadyH.nil))
      · skip
        refine wp_append_any _ (.tmp 118) (.tmp 124) 32 rfl W0.drew.heap.size 23 i0i _ 2 16 Try.underlying32 HI.out hz0 hz1 hz2 rfl (by decide) _ (0) _ rfl own_1 _ _ (k - i + 1) (c - i) (flatP (cutB l i k)) rfl (pts_sub (hR.below iv_1.b) hik1).2 (flatP_one (cutB l i k)) (by unfold maxLen; omega) (by omega) sz_1 ?_
        intro v_2 W_2 own_2 hg_2 hat_2
        have iv_2 : BI w W_2 := Below.grown iv_1.b hg_2 iv_1.b.size (fun g hg => Nat.le_trans iv0.b.size (own_lt9 own_1 g hg).1)
        have x_2 := x_1.grown hg_2 (fun e => by have q1 := (own_lt9 own_1 _ e.symm).1; have q2 := x0.lt; omega)
        have y_2 := y_1.grown hg_2 (fun e => by have q1 := (own_lt9 own_1 _ e.symm).1; have q2 := y0.lt; omega)
        have jv_2 : BI W0.drew W_2 := Below.grown jv_1.b hg_2 jv_1.b.size (fun g hg => (own_lt9 own_1 g hg).1)
        have sz_2 : W0.drew.heap.size ≤ W_2.heap.size := Nat.le_trans sz_1 hg_2.size
        rw [Nat.zero_add, List.nil_append] at own_2
        obtain ⟨g9, c9, e9, hc9⟩ := own_formg own_2 (by omega)
        subst e9
        refine hK.out _ _ (⟨x_2.cell 0, x_2.cell 1⟩) (fun hHeld2 => ?_)
        clear hK K hHeld; have hHeld := hHeld2; clear hHeld2
        try simp only [Act.put, List.setIfInBounds_toArray, List.set_cons_zero, List.set_cons_succ]
        refine wpAnyH_take (i := 10) (oi := { dst := some 126, op := Op.build 34 #[(0, Operand.tmp 117), (1, Operand.tmp 125)], type := 34, pos := "law.go:84", after := #[{ on := 1, ground := Ground.data }, { on := 9, ground := Ground.data }], guard := none }) (v := ?_) rfl (by kernel_rfl) (by kernel_rfl) (by kernel_rfl) (fun _ _ _ h => h) (Or.inl ⟨by rfl, ?_⟩) hHeld ?_
        rotate_left
        · intro w hSw
          try dsimp only at hSw
          go_simp
          try with_reducible rfl
        try simp only [Act.put, List.setIfInBounds_toArray, List.set_cons_zero, List.set_cons_succ]
        refine wpAnyH_ready (rs := [11]) (by kernel_rfl) (by simp) ?_
        refine AllReadyH.cons (o := { dst := some 16, op := Op.alloc 34, type := 0, pos := "law.go:84", after := #[], guard := none }) rfl (fun K hK => ?_) (AllReadyH.nil)
        go_simp
        have b_3 := Blk.new (W_2) 34 #[.string ByteArray.empty, .slice none 0 0]
        have iv_3 := iv_2.alloc (.cells #[.string ByteArray.empty, .slice none 0 0] 34)
        have jv_3 := jv_2.alloc (.cells #[.string ByteArray.empty, .slice none 0 0] 34)
        have x_3 := x_2.alloc (.cells #[.string ByteArray.empty, .slice none 0 0] 34)
        have y_3 := y_2.alloc (.cells #[.string ByteArray.empty, .slice none 0 0] 34)
        have sz_3 : W0.drew.heap.size ≤ ((W_2).alloc (.cells #[.string ByteArray.empty, .slice none 0 0] 34)).heap.size := by rw [sz1 _ _ rfl]; exact Nat.le_succ_of_le sz_2
        have own_3 := own_2.alloc (.cells #[.string ByteArray.empty, .slice none 0 0] 34)
        refine hK.out _ _ (⟨x_3.cell 0, x_3.cell 1⟩) (fun hHeld2 => ?_)
        clear hK K hHeld; have hHeld := hHeld2; clear hHeld2
        try simp only [Act.put, List.setIfInBounds_toArray, List.set_cons_zero, List.set_cons_succ]
        refine wpAnyH_ready (rs := [12]) (by kernel_rfl) (by simp) ?_
        refine AllReadyH.cons (o := { dst := none, op := Op.store 34 (Operand.tmp 16) (Operand.tmp 126), type := 0, pos := "law.go:84", after := #[{ on := 11, ground := Ground.data }, { on := 10, ground := Ground.data }, { on := 9, ground := Ground.chain }, { on := 0, ground := Ground.phase }, { on := 1, ground := Ground.phase }, { on := 2, ground := Ground.phase }, { on := 3, ground := Ground.phase }, { on := 4, ground := Ground.phase }, { on := 5, ground := Ground.phase }, { on := 6, ground := Ground.phase }, { on := 7, ground := Ground.phase }, { on := 8, ground := Ground.phase }, { on := 9, ground := Ground.phase }, { on := 10, ground := Ground.phase }, { on := 11, ground := Ground.phase }], guard := none }) rfl (fun K hK => ?_) (AllReadyH.nil)
        refine wp_store_g 34 (.tmp 16) (.tmp 126) rfl rfl _ 0 (arA z (some ⟨g9, 0, none⟩) ((k - i + 1)) c9) (arA z (some ⟨g9, 0, none⟩) ((k - i + 1)) c9) rfl rfl _ _ b_3 (by show 0 + 2 ≤ 2; decide) (by kernel_rfl) (by kernel_rfl) (by kernel_rfl) ?_
        have x_4 := Blk.rowFar x_3 (Nat.ne_of_lt (Nat.lt_of_lt_of_le x0.lt (sz_2))) (arA z (some ⟨g9, 0, none⟩) ((k - i + 1)) c9)
        have y_4 := Blk.rowFar y_3 (Nat.ne_of_lt (Nat.lt_of_lt_of_le y0.lt (sz_2))) (arA z (some ⟨g9, 0, none⟩) ((k - i + 1)) c9)
        have iv_4 := bi_row iv_3 (Nat.le_trans iv0.b.size (sz_2)) (arA z (some ⟨g9, 0, none⟩) ((k - i + 1)) c9)
        have jv_4 := bi_row jv_3 (sz_2) (arA z (some ⟨g9, 0, none⟩) ((k - i + 1)) c9)
        have own_4 := own_setRow own_3 _ (arA z (some ⟨g9, 0, none⟩) ((k - i + 1)) c9) (own_blk_ne own_3 b_3 (by decide))
        have b_4 := Blk.row b_3 (arA z (some ⟨g9, 0, none⟩) ((k - i + 1)) c9)
        refine hK.out _ _ (⟨x_4.cell 0, x_4.cell 1⟩) (fun hHeld2 => ?_)
        clear hK K hHeld; have hHeld := hHeld2; clear hHeld2
        try simp only [Act.put, List.setIfInBounds_toArray, List.set_cons_zero, List.set_cons_succ]
        refine wpAnyH_done (by kernel_rfl) ?_ _
        clear hHeld
        have hrd9 := Reads.of_own own_4
        go_wp2_with fail
        go_meet
        exact ⟨_, g9, c9, rfl, x_4, y_4, iv_4, b_4, ⟨hlB, hrd9⟩⟩
      · skip
        go_simp
        have b_5 := blk_at ((W0.drew).alloc (.cells (#[] : Array Value) 23)) 34 #[.string ByteArray.empty, .slice none 0 0] (sz1 W0.drew _ rfl)
        have iv_5 := iv_1.alloc (.cells #[.string ByteArray.empty, .slice none 0 0] 34)
        have jv_5 := jv_1.alloc (.cells #[.string ByteArray.empty, .slice none 0 0] 34)
        have x_5 := x_1.alloc (.cells #[.string ByteArray.empty, .slice none 0 0] 34)
        have y_5 := y_1.alloc (.cells #[.string ByteArray.empty, .slice none 0 0] 34)
        have sz_5 : W0.drew.heap.size ≤ (((W0.drew).alloc (.cells (#[] : Array Value) 23)).alloc (.cells #[.string ByteArray.empty, .slice none 0 0] 34)).heap.size := by rw [sz1 _ _ rfl]; exact Nat.le_succ_of_le sz_1
        have own_5 := own_1.alloc (.cells #[.string ByteArray.empty, .slice none 0 0] 34)
        refine hK.out _ _ (⟨x_5.cell 0, x_5.cell 1⟩) (fun hHeld2 => ?_)
        clear hK K hHeld; have hHeld := hHeld2; clear hHeld2
        try simp only [Act.put, List.setIfInBounds_toArray, List.set_cons_zero, List.set_cons_succ]
        refine wpAnyH_ready (rs := [9]) (by kernel_rfl) (by simp) ?_
        refine AllReadyH.cons (o := { dst := some 125, op := Op.call { callee := Callee.builtin Builtin.append, args := #[Operand.tmp 118, Operand.tmp 124], argTypes := #[32, 32] }, type := 32, pos := "law.go:84", after := #[{ on := 2, ground := Ground.data }, { on := 8, ground := Ground.data }], guard := none }) rfl (fun K hK => ?_) (AllReadyH.nil)
        refine wp_append_any _ (.tmp 118) (.tmp 124) 32 rfl W0.drew.heap.size 23 i0i _ 2 16 Try.underlying32 HI.out hz0 hz1 hz2 rfl (by decide) _ (0) _ rfl own_5 _ _ (k - i + 1) (c - i) (flatP (cutB l i k)) rfl (pts_sub (hR.below iv_5.b) hik1).2 (flatP_one (cutB l i k)) (by unfold maxLen; omega) (by omega) sz_5 ?_
        intro v_6 W_6 own_6 hg_6 hat_6
        have iv_6 : BI w W_6 := Below.grown iv_5.b hg_6 iv_5.b.size (fun g hg => Nat.le_trans iv0.b.size (own_lt9 own_5 g hg).1)
        have x_6 := x_5.grown hg_6 (fun e => by have q1 := (own_lt9 own_5 _ e.symm).1; have q2 := x0.lt; omega)
        have y_6 := y_5.grown hg_6 (fun e => by have q1 := (own_lt9 own_5 _ e.symm).1; have q2 := y0.lt; omega)
        have jv_6 : BI W0.drew W_6 := Below.grown jv_5.b hg_6 jv_5.b.size (fun g hg => (own_lt9 own_5 g hg).1)
        have b_6 := b_5.grown hg_6 (fun e => own_blk_ne own_5 b_5 (by decide) e.symm)
        have sz_6 : W0.drew.heap.size ≤ W_6.heap.size := Nat.le_trans sz_5 hg_6.size
        rw [Nat.zero_add, List.nil_append] at own_6
        obtain ⟨g9, c9, e9, hc9⟩ := own_formg own_6 (by omega)
        subst e9
        refine hK.out _ _ (⟨x_6.cell 0, x_6.cell 1⟩) (fun hHeld2 => ?_)
        clear hK K hHeld; have hHeld := hHeld2; clear hHeld2
        try simp only [Act.put, List.setIfInBounds_toArray, List.set_cons_zero, List.set_cons_succ]
        refine wpAnyH_take (i := 10) (oi := { dst := some 126, op := Op.build 34 #[(0, Operand.tmp 117), (1, Operand.tmp 125)], type := 34, pos := "law.go:84", after := #[{ on := 1, ground := Ground.data }, { on := 9, ground := Ground.data }], guard := none }) (v := ?_) rfl (by kernel_rfl) (by kernel_rfl) (by kernel_rfl) (fun _ _ _ h => h) (Or.inl ⟨by rfl, ?_⟩) hHeld ?_
        rotate_left
        · intro w hSw
          try dsimp only at hSw
          go_simp
          try with_reducible rfl
        try simp only [Act.put, List.setIfInBounds_toArray, List.set_cons_zero, List.set_cons_succ]
        refine wpAnyH_ready (rs := [12]) (by kernel_rfl) (by simp) ?_
        refine AllReadyH.cons (o := { dst := none, op := Op.store 34 (Operand.tmp 16) (Operand.tmp 126), type := 0, pos := "law.go:84", after := #[{ on := 11, ground := Ground.data }, { on := 10, ground := Ground.data }, { on := 9, ground := Ground.chain }, { on := 0, ground := Ground.phase }, { on := 1, ground := Ground.phase }, { on := 2, ground := Ground.phase }, { on := 3, ground := Ground.phase }, { on := 4, ground := Ground.phase }, { on := 5, ground := Ground.phase }, { on := 6, ground := Ground.phase }, { on := 7, ground := Ground.phase }, { on := 8, ground := Ground.phase }, { on := 9, ground := Ground.phase }, { on := 10, ground := Ground.phase }, { on := 11, ground := Ground.phase }], guard := none }) rfl (fun K hK => ?_) (AllReadyH.nil)
        refine wp_store_g 34 (.tmp 16) (.tmp 126) rfl rfl _ 0 (arA z (some ⟨g9, 0, none⟩) ((k - i + 1)) c9) (arA z (some ⟨g9, 0, none⟩) ((k - i + 1)) c9) rfl rfl _ _ b_6 (by show 0 + 2 ≤ 2; decide) (by kernel_rfl) (by kernel_rfl) (by kernel_rfl) ?_
        have x_7 := Blk.rowFar x_6 (Nat.ne_of_lt (Nat.lt_of_lt_of_le x0.lt (Nat.le_succ _))) (arA z (some ⟨g9, 0, none⟩) ((k - i + 1)) c9)
        have y_7 := Blk.rowFar y_6 (Nat.ne_of_lt (Nat.lt_of_lt_of_le y0.lt (Nat.le_succ _))) (arA z (some ⟨g9, 0, none⟩) ((k - i + 1)) c9)
        have iv_7 := bi_row iv_6 (Nat.le_trans iv0.b.size (Nat.le_succ _)) (arA z (some ⟨g9, 0, none⟩) ((k - i + 1)) c9)
        have jv_7 := bi_row jv_6 (Nat.le_succ _) (arA z (some ⟨g9, 0, none⟩) ((k - i + 1)) c9)
        have own_7 := own_setRow own_6 _ (arA z (some ⟨g9, 0, none⟩) ((k - i + 1)) c9) (own_blk_ne own_6 b_6 (by decide))
        have b_7 := Blk.row b_6 (arA z (some ⟨g9, 0, none⟩) ((k - i + 1)) c9)
        refine hK.out _ _ (⟨x_7.cell 0, x_7.cell 1⟩) (fun hHeld2 => ?_)
        clear hK K hHeld; have hHeld := hHeld2; clear hHeld2
        try simp only [Act.put, List.setIfInBounds_toArray, List.set_cons_zero, List.set_cons_succ]
        refine wpAnyH_done (by kernel_rfl) ?_ _
        clear hHeld
        have hrd9 := Reads.of_own own_7
        go_wp2_with fail
        go_meet
        exact ⟨_, g9, c9, rfl, x_7, y_7, iv_7, b_7, ⟨hlB, hrd9⟩⟩
    · skip
      go_simp
      have b_8 := Blk.new (W0.drew) 34 #[.string ByteArray.empty, .slice none 0 0]
      have iv_8 := iv0.alloc (.cells #[.string ByteArray.empty, .slice none 0 0] 34)
      have jv_8 := jv0.alloc (.cells #[.string ByteArray.empty, .slice none 0 0] 34)
      have x_8 := x0.alloc (.cells #[.string ByteArray.empty, .slice none 0 0] 34)
      have y_8 := y0.alloc (.cells #[.string ByteArray.empty, .slice none 0 0] 34)
      have sz_8 : W0.drew.heap.size ≤ ((W0.drew).alloc (.cells #[.string ByteArray.empty, .slice none 0 0] 34)).heap.size := by rw [sz1 _ _ rfl]; exact Nat.le_succ_of_le (Nat.le_refl W0.drew.heap.size)
      refine hK.out _ _ (⟨x_8.cell 0, x_8.cell 1⟩) (fun hHeld2 => ?_)
      clear hK K hHeld; have hHeld := hHeld2; clear hHeld2
      try simp only [Act.put, List.setIfInBounds_toArray, List.set_cons_zero, List.set_cons_succ]
      refine wpAnyH_ready (rs := [2]) (by kernel_rfl) (by simp) ?_
      refine AllReadyH.cons (o := { dst := some 118, op := Op.buildSlice 32 0 #[], type := 32, pos := "law.go:84", after := #[], guard := none }) rfl (fun K hK => ?_) (AllReadyH.nil)
      go_simp
      have own_9 := own_x (base := W0.drew.heap.size) ((W0.drew).alloc (.cells #[.string ByteArray.empty, .slice none 0 0] 34)) sz_8
      rw [sz1 W0.drew _ rfl] at own_9
      have iv_9 := iv_8.alloc (.cells (#[] : Array Value) 23)
      have jv_9 := jv_8.alloc (.cells (#[] : Array Value) 23)
      have x_9 := x_8.alloc (.cells (#[] : Array Value) 23)
      have y_9 := y_8.alloc (.cells (#[] : Array Value) 23)
      have sz_9 : W0.drew.heap.size ≤ (((W0.drew).alloc (.cells #[.string ByteArray.empty, .slice none 0 0] 34)).alloc (.cells (#[] : Array Value) 23)).heap.size := by rw [sz1 _ _ rfl]; exact Nat.le_succ_of_le sz_8
      have b_9 := b_8.alloc (.cells (#[] : Array Value) 23)
      refine hK.out _ _ (⟨x_9.cell 0, x_9.cell 1⟩) (fun hHeld2 => ?_)
      clear hK K hHeld; have hHeld := hHeld2; clear hHeld2
      try simp only [Act.put, List.setIfInBounds_toArray, List.set_cons_zero, List.set_cons_succ]
      refine wpAnyH_ready (rs := [9]) (by kernel_rfl) (by simp) ?_
      refine AllReadyH.cons (o := { dst := some 125, op := Op.call { callee := Callee.builtin Builtin.append, args := #[Operand.tmp 118, Operand.tmp 124], argTypes := #[32, 32] }, type := 32, pos := "law.go:84", after := #[{ on := 2, ground := Ground.data }, { on := 8, ground := Ground.data }], guard := none }) rfl (fun K hK => ?_) (AllReadyH.nil)
      refine wp_append_any _ (.tmp 118) (.tmp 124) 32 rfl W0.drew.heap.size 23 i0i _ 2 16 Try.underlying32 HI.out hz0 hz1 hz2 rfl (by decide) _ (0) _ rfl own_9 _ _ (k - i + 1) (c - i) (flatP (cutB l i k)) rfl (pts_sub (hR.below iv_9.b) hik1).2 (flatP_one (cutB l i k)) (by unfold maxLen; omega) (by omega) sz_9 ?_
      intro v_10 W_10 own_10 hg_10 hat_10
      have iv_10 : BI w W_10 := Below.grown iv_9.b hg_10 iv_9.b.size (fun g hg => Nat.le_trans iv0.b.size (own_lt9 own_9 g hg).1)
      have x_10 := x_9.grown hg_10 (fun e => by have q1 := (own_lt9 own_9 _ e.symm).1; have q2 := x0.lt; omega)
      have y_10 := y_9.grown hg_10 (fun e => by have q1 := (own_lt9 own_9 _ e.symm).1; have q2 := y0.lt; omega)
      have jv_10 : BI W0.drew W_10 := Below.grown jv_9.b hg_10 jv_9.b.size (fun g hg => (own_lt9 own_9 g hg).1)
      have b_10 := b_9.grown hg_10 (fun e => own_blk_ne own_9 b_9 (by decide) e.symm)
      have sz_10 : W0.drew.heap.size ≤ W_10.heap.size := Nat.le_trans sz_9 hg_10.size
      rw [Nat.zero_add, List.nil_append] at own_10
      obtain ⟨g9, c9, e9, hc9⟩ := own_formg own_10 (by omega)
      subst e9
      refine hK.out _ _ (⟨x_10.cell 0, x_10.cell 1⟩) (fun hHeld2 => ?_)
      clear hK K hHeld; have hHeld := hHeld2; clear hHeld2
      try simp only [Act.put, List.setIfInBounds_toArray, List.set_cons_zero, List.set_cons_succ]
      refine wpAnyH_take (i := 10) (oi := { dst := some 126, op := Op.build 34 #[(0, Operand.tmp 117), (1, Operand.tmp 125)], type := 34, pos := "law.go:84", after := #[{ on := 1, ground := Ground.data }, { on := 9, ground := Ground.data }], guard := none }) (v := ?_) rfl (by kernel_rfl) (by kernel_rfl) (by kernel_rfl) (fun _ _ _ h => h) (Or.inl ⟨by rfl, ?_⟩) hHeld ?_
      rotate_left
      · intro w hSw
        try dsimp only at hSw
        go_simp
        try with_reducible rfl
      try simp only [Act.put, List.setIfInBounds_toArray, List.set_cons_zero, List.set_cons_succ]
      refine wpAnyH_ready (rs := [12]) (by kernel_rfl) (by simp) ?_
      refine AllReadyH.cons (o := { dst := none, op := Op.store 34 (Operand.tmp 16) (Operand.tmp 126), type := 0, pos := "law.go:84", after := #[{ on := 11, ground := Ground.data }, { on := 10, ground := Ground.data }, { on := 9, ground := Ground.chain }, { on := 0, ground := Ground.phase }, { on := 1, ground := Ground.phase }, { on := 2, ground := Ground.phase }, { on := 3, ground := Ground.phase }, { on := 4, ground := Ground.phase }, { on := 5, ground := Ground.phase }, { on := 6, ground := Ground.phase }, { on := 7, ground := Ground.phase }, { on := 8, ground := Ground.phase }, { on := 9, ground := Ground.phase }, { on := 10, ground := Ground.phase }, { on := 11, ground := Ground.phase }], guard := none }) rfl (fun K hK => ?_) (AllReadyH.nil)
      refine wp_store_g 34 (.tmp 16) (.tmp 126) rfl rfl _ 0 (arA z (some ⟨g9, 0, none⟩) ((k - i + 1)) c9) (arA z (some ⟨g9, 0, none⟩) ((k - i + 1)) c9) rfl rfl _ _ b_10 (by show 0 + 2 ≤ 2; decide) (by kernel_rfl) (by kernel_rfl) (by kernel_rfl) ?_
      have x_11 := Blk.rowFar x_10 (Nat.ne_of_lt (Nat.lt_of_lt_of_le x0.lt (Nat.le_refl _))) (arA z (some ⟨g9, 0, none⟩) ((k - i + 1)) c9)
      have y_11 := Blk.rowFar y_10 (Nat.ne_of_lt (Nat.lt_of_lt_of_le y0.lt (Nat.le_refl _))) (arA z (some ⟨g9, 0, none⟩) ((k - i + 1)) c9)
      have iv_11 := bi_row iv_10 (Nat.le_trans iv0.b.size (Nat.le_refl _)) (arA z (some ⟨g9, 0, none⟩) ((k - i + 1)) c9)
      have jv_11 := bi_row jv_10 (Nat.le_refl _) (arA z (some ⟨g9, 0, none⟩) ((k - i + 1)) c9)
      have own_11 := own_setRow own_10 _ (arA z (some ⟨g9, 0, none⟩) ((k - i + 1)) c9) (own_blk_ne own_10 b_10 (by decide))
      have b_11 := Blk.row b_10 (arA z (some ⟨g9, 0, none⟩) ((k - i + 1)) c9)
      refine hK.out _ _ (⟨x_11.cell 0, x_11.cell 1⟩) (fun hHeld2 => ?_)
      clear hK K hHeld; have hHeld := hHeld2; clear hHeld2
      try simp only [Act.put, List.setIfInBounds_toArray, List.set_cons_zero, List.set_cons_succ]
      refine wpAnyH_done (by kernel_rfl) ?_ _
      clear hHeld
      have hrd9 := Reads.of_own own_11
      go_wp2_with fail
      go_meet
      exact ⟨_, g9, c9, rfl, x_11, y_11, iv_11, b_11, ⟨hlB, hrd9⟩⟩
  case rest =>
  clear x0 y0 iv0 jv0 r15
  obtain ⟨ub, gb, cb, rfl, x0, y0, iv0, b80, pb⟩ := hcut
  obtain ⟨W2, rfl⟩ : ∃ W : World, W = wc := ⟨_, rfl⟩
  go_upto_region 16 with fail
  obtain ⟨W0, rfl⟩ : ∃ W0 : World, W0 = W2 := ⟨_, rfl⟩
  replace x0 : Blk W0.drew w.heap.size 34 (arA z (some ad) n c) := x0
  replace y0 : Blk W0.drew (w.heap.size + 1) 23 p.A := y0
  replace b80 : Blk W0.drew ub 34 (arA z (some ⟨gb, 0, none⟩) (k - i + 1) cb) := b80
  replace iv0 : BI w W0.drew := iv0.drew
  replace pb : Pts W0.drew W0.drew.heap.size (some ⟨gb, 0, none⟩) (k - i + 1) (cutB l i k) := pb
  have jv0 := BI.start W0.drew
  go_cut [17] (fun v wx => ∃ (uc gc cc : Nat), v = .pointer (some ⟨uc, 0, none⟩) ∧ Blk wx w.heap.size 34 (arA z (some ad) n c) ∧ Blk wx (w.heap.size + 1) 23 p.A ∧ BI w wx ∧ Blk wx ub 34 (arA z (some ⟨gb, 0, none⟩) (k - i + 1) cb) ∧ Blk wx uc 34 (arA z (some ⟨gc, 0, none⟩) (n - k + (i + 1)) cc) ∧ Pts wx wx.heap.size (some ⟨gb, 0, none⟩) (k - i + 1) (cutB l i k) ∧ Pts wx wx.heap.size (some ⟨gc, 0, none⟩) (n - k + (i + 1)) (cutC l i k))
  case first =>
    refine wp_region_held_drew (S := fun w' => w'.cell? ⟨w.heap.size, 0, none⟩ = some (.string z) ∧ w'.cell? ⟨w.heap.size, 1, none⟩ = some (.slice (some ad) n c)) (by kernel_rfl) (⟨x0.cell 0, x0.cell 1⟩) (fun hHeld => ?_)
    refine wpAnyH_take (i := 0) (oi := { dst := some 127, op := Op.fieldAddr 34 (Operand.tmp 4) 0, type := 0, pos := "law.go:85", after := #[], guard := none }) (v := ?_) rfl (by kernel_rfl) (by kernel_rfl) (by kernel_rfl) (fun _ _ _ h => h) (Or.inl ⟨by rfl, ?_⟩) hHeld ?_
    rotate_left
    · intro w hSw
      try dsimp only at hSw
      go_simp
      try with_reducible rfl
    try simp only [Act.put, List.setIfInBounds_toArray, List.set_cons_zero, List.set_cons_succ]
    refine wpAnyH_take (i := 1) (oi := { dst := some 128, op := Op.load 9 (Operand.tmp 127), type := 9, pos := "law.go:85", after := #[{ on := 0, ground := Ground.data }], guard := none }) (v := ?_) rfl (by kernel_rfl) (by kernel_rfl) (by kernel_rfl) (fun _ _ _ h => h) (Or.inl ⟨by rfl, ?_⟩) hHeld ?_
    rotate_left
    · intro w hSw
      try dsimp only at hSw
      go_simp
      try with_reducible rfl
    try simp only [Act.put, List.setIfInBounds_toArray, List.set_cons_zero, List.set_cons_succ]
    refine wpAnyH_take (i := 3) (oi := { dst := some 130, op := Op.fieldAddr 34 (Operand.tmp 4) 1, type := 0, pos := "law.go:85", after := #[], guard := none }) (v := ?_) rfl (by kernel_rfl) (by kernel_rfl) (by kernel_rfl) (fun _ _ _ h => h) (Or.inl ⟨by rfl, ?_⟩) hHeld ?_
    rotate_left
    · intro w hSw
      try dsimp only at hSw
      go_simp
      try with_reducible rfl
    try simp only [Act.put, List.setIfInBounds_toArray, List.set_cons_zero, List.set_cons_succ]
    refine wpAnyH_take (i := 4) (oi := { dst := some 131, op := Op.load 32 (Operand.tmp 130), type := 32, pos := "law.go:85", after := #[{ on := 3, ground := Ground.data }], guard := none }) (v := ?_) rfl (by kernel_rfl) (by kernel_rfl) (by kernel_rfl) (fun _ _ _ h => h) (Or.inl ⟨by rfl, ?_⟩) hHeld ?_
    rotate_left
    · intro w hSw
      try dsimp only at hSw
      go_simp
      try with_reducible rfl
    try simp only [Act.put, List.setIfInBounds_toArray, List.set_cons_zero, List.set_cons_succ]
    refine wpAnyH_take (i := 5) (oi := { dst := some 132, op := Op.move (Operand.tmp 15), type := 3, pos := "law.go:85", after := #[], guard := none }) (v := ?_) rfl (by kernel_rfl) (by kernel_rfl) (by kernel_rfl) (fun _ _ _ h => h) (Or.inl ⟨by rfl, ?_⟩) hHeld ?_
    rotate_left
    · intro w hSw
      try dsimp only at hSw
      go_simp
      try with_reducible rfl
    try simp only [Act.put, List.setIfInBounds_toArray, List.set_cons_zero, List.set_cons_succ]
    refine wpAnyH_take (i := 6) (oi := { dst := some 133, op := Op.slice 32 (Operand.tmp 131) (some (Operand.tmp 132)) none none, type := 32, pos := "law.go:85", after := #[{ on := 4, ground := Ground.data }, { on := 5, ground := Ground.data }], guard := none }) (v := ?_) rfl (by kernel_rfl) (by kernel_rfl) (by kernel_rfl) (fun _ _ _ h => h) (Or.inl ⟨by rfl, ?_⟩) hHeld ?_
    rotate_left
    · intro w hSw
      try dsimp only at hSw
      go_simp
      try with_reducible rfl
    try simp only [Act.put, List.setIfInBounds_toArray, List.set_cons_zero, List.set_cons_succ]
    refine wpAnyH_take (i := 8) (oi := { dst := some 135, op := Op.fieldAddr 34 (Operand.tmp 4) 1, type := 0, pos := "law.go:85", after := #[], guard := none }) (v := ?_) rfl (by kernel_rfl) (by kernel_rfl) (by kernel_rfl) (fun _ _ _ h => h) (Or.inl ⟨by rfl, ?_⟩) hHeld ?_
    rotate_left
    · intro w hSw
      try dsimp only at hSw
      go_simp
      try with_reducible rfl
    try simp only [Act.put, List.setIfInBounds_toArray, List.set_cons_zero, List.set_cons_succ]
    refine wpAnyH_take (i := 9) (oi := { dst := some 136, op := Op.load 32 (Operand.tmp 135), type := 32, pos := "law.go:85", after := #[{ on := 8, ground := Ground.data }], guard := none }) (v := ?_) rfl (by kernel_rfl) (by kernel_rfl) (by kernel_rfl) (fun _ _ _ h => h) (Or.inl ⟨by rfl, ?_⟩) hHeld ?_
    rotate_left
    · intro w hSw
      try dsimp only at hSw
      go_simp
      try with_reducible rfl
    try simp only [Act.put, List.setIfInBounds_toArray, List.set_cons_zero, List.set_cons_succ]
    refine wpAnyH_take (i := 10) (oi := { dst := some 137, op := Op.move (Operand.tmp 14), type := 3, pos := "law.go:85", after := #[], guard := none }) (v := ?_) rfl (by kernel_rfl) (by kernel_rfl) (by kernel_rfl) (fun _ _ _ h => h) (Or.inl ⟨by rfl, ?_⟩) hHeld ?_
    rotate_left
    · intro w hSw
      try dsimp only at hSw
      go_simp
      try with_reducible rfl
    try simp only [Act.put, List.setIfInBounds_toArray, List.set_cons_zero, List.set_cons_succ]
    refine wpAnyH_take (i := 11) (oi := { dst := some 138, op := Op.binOp BinOp.add 3 (Operand.tmp 137) (Operand.const (Value.int IntKind.i64 1)) 3, type := 3, pos := "law.go:85", after := #[{ on := 10, ground := Ground.data }], guard := none }) (v := ?_) rfl (by kernel_rfl) (by kernel_rfl) (by kernel_rfl) (fun _ _ _ h => h) (Or.inl ⟨by rfl, ?_⟩) hHeld ?_
    rotate_left
    · intro w hSw
      try dsimp only at hSw
      go_simp
      try with_reducible rfl
    try simp only [Act.put, List.setIfInBounds_toArray, List.set_cons_zero, List.set_cons_succ]
    refine wpAnyH_take (i := 12) (oi := { dst := some 139, op := Op.slice 32 (Operand.tmp 136) none (some (Operand.tmp 138)) none, type := 32, pos := "law.go:85", after := #[{ on := 9, ground := Ground.data }, { on := 11, ground := Ground.data }], guard := none }) (v := ?_) rfl (by kernel_rfl) (by kernel_rfl) (by kernel_rfl) (fun _ _ _ h => h) (Or.inl ⟨by rfl, ?_⟩) hHeld ?_
    rotate_left
    · intro w hSw
      try dsimp only at hSw
      go_simp
      try with_reducible rfl
    try simp only [Act.put, List.setIfInBounds_toArray, List.set_cons_zero, List.set_cons_succ]
    refine wpAnyH_ready (rs := [2, 15]) (by kernel_rfl) (by simp) ?_
    refine AllReadyH.cons (o := { dst := some 129, op := Op.buildSlice 32 0 #[], type := 32, pos := "law.go:85", after := #[], guard := none }) rfl (fun K hK => ?_) (AllReadyH.cons (o := { dst := some 17, op := Op.alloc 34, type := 0, pos := "law.go:85", after := #[], guard := none }) rfl (fun K hK => ?_) (AllReadyH.nil))
    · skip
      go_simp
      have own_1 := own_x (base := W0.drew.heap.size) (W0.drew) (Nat.le_refl W0.drew.heap.size)
      have iv_1 := iv0.alloc (.cells (#[] : Array Value) 23)
      have jv_1 := jv0.alloc (.cells (#[] : Array Value) 23)
      have x_1 := x0.alloc (.cells (#[] : Array Value) 23)
      have y_1 := y0.alloc (.cells (#[] : Array Value) 23)
      have b8_1 := b80.alloc (.cells (#[] : Array Value) 23)
      have sz_1 : W0.drew.heap.size ≤ ((W0.drew).alloc (.cells (#[] : Array Value) 23)).heap.size := by rw [sz1 _ _ rfl]; exact Nat.le_succ_of_le (Nat.le_refl W0.drew.heap.size)
      refine hK.out _ _ (⟨x_1.cell 0, x_1.cell 1⟩) (fun hHeld2 => ?_)
      clear hK K hHeld; have hHeld := hHeld2; clear hHeld2
      try simp only [Act.put, List.setIfInBounds_toArray, List.set_cons_zero, List.set_cons_succ]
      refine wpAnyH_ready (rs := [7, 15]) (by kernel_rfl) (by simp) ?_
      refine AllReadyH.cons (o := { dst := some 134, op := Op.call { callee := Callee.builtin Builtin.append, args := #[Operand.tmp 129, Operand.tmp 133], argTypes := #[32, 32] }, type := 32, pos := "law.go:85", after := #[{ on := 2, ground := Ground.data }, { on := 6, ground := Ground.data }], guard := none }) rfl (fun K hK => ?_) (AllReadyH.cons (o := { dst := some 17, op := Op.alloc 34, type := 0, pos := "law.go:85", after := #[], guard := none }) rfl (fun K hK => ?_) (AllReadyH.nil))
      · skip
        refine wp_append_any _ (.tmp 129) (.tmp 133) 32 rfl W0.drew.heap.size 23 i0i _ 2 16 Try.underlying32 HI.out hz0 hz1 hz2 rfl (by decide) _ (0) _ rfl own_1 _ _ (n - k) (c - k) (flatP (l.drop k)) rfl (pts_drop (hR.below iv_1.b) (by omega)).2 (flatP_one (l.drop k)) (by unfold maxLen; omega) (by omega) sz_1 ?_
        intro v_2 W_2 own_2 hg_2 hat_2
        have iv_2 : BI w W_2 := Below.grown iv_1.b hg_2 iv_1.b.size (fun g hg => Nat.le_trans iv0.b.size (own_lt9 own_1 g hg).1)
        have x_2 := x_1.grown hg_2 (fun e => by have q1 := (own_lt9 own_1 _ e.symm).1; have q2 := x0.lt; omega)
        have y_2 := y_1.grown hg_2 (fun e => by have q1 := (own_lt9 own_1 _ e.symm).1; have q2 := y0.lt; omega)
        have b8_2 := b8_1.grown hg_2 (fun e => by have q1 := (own_lt9 own_1 _ e.symm).1; have q2 := b80.lt; omega)
        have jv_2 : BI W0.drew W_2 := Below.grown jv_1.b hg_2 jv_1.b.size (fun g hg => (own_lt9 own_1 g hg).1)
        have sz_2 : W0.drew.heap.size ≤ W_2.heap.size := Nat.le_trans sz_1 hg_2.size
        rw [Nat.zero_add, List.nil_append] at own_2
        obtain ⟨g9, c9, e9, hc9⟩ := own_formg own_2 (by omega)
        subst e9
        refine hK.out _ _ (⟨x_2.cell 0, x_2.cell 1⟩) (fun hHeld2 => ?_)
        clear hK K hHeld; have hHeld := hHeld2; clear hHeld2
        try simp only [Act.put, List.setIfInBounds_toArray, List.set_cons_zero, List.set_cons_succ]
        refine wpAnyH_ready (rs := [13, 15]) (by kernel_rfl) (by simp) ?_
        refine AllReadyH.cons (o := { dst := some 140, op := Op.call { callee := Callee.builtin Builtin.append, args := #[Operand.tmp 134, Operand.tmp 139], argTypes := #[32, 32] }, type := 32, pos := "law.go:85", after := #[{ on := 7, ground := Ground.data }, { on := 12, ground := Ground.data }, { on := 7, ground := Ground.chain }], guard := none }) rfl (fun K hK => ?_) (AllReadyH.cons (o := { dst := some 17, op := Op.alloc 34, type := 0, pos := "law.go:85", after := #[], guard := none }) rfl (fun K hK => ?_) (AllReadyH.nil))
        · skip
          refine wp_append_any _ (.tmp 134) (.tmp 139) 32 rfl W0.drew.heap.size 23 i0i _ 2 16 Try.underlying32 HI.out hz0 hz1 hz2 rfl (by decide) _ ((n - k)) _ rfl own_2 _ _ (i + 1) c (flatP (l.take (i + 1))) rfl (pts_take (hR.below iv_2.b) (by omega)).2 (flatP_one (l.take (i + 1))) (by unfold maxLen; omega) (by omega) sz_2 ?_
          intro v_3 W_3 own_3 hg_3 hat_3
          have iv_3 : BI w W_3 := Below.grown iv_2.b hg_3 iv_2.b.size (fun g hg => Nat.le_trans iv0.b.size (own_lt9 own_2 g hg).1)
          have x_3 := x_2.grown hg_3 (fun e => by have q1 := (own_lt9 own_2 _ e.symm).1; have q2 := x0.lt; omega)
          have y_3 := y_2.grown hg_3 (fun e => by have q1 := (own_lt9 own_2 _ e.symm).1; have q2 := y0.lt; omega)
          have b8_3 := b8_2.grown hg_3 (fun e => by have q1 := (own_lt9 own_2 _ e.symm).1; have q2 := b80.lt; omega)
          have jv_3 : BI W0.drew W_3 := Below.grown jv_2.b hg_3 jv_2.b.size (fun g hg => (own_lt9 own_2 g hg).1)
          have sz_3 : W0.drew.heap.size ≤ W_3.heap.size := Nat.le_trans sz_2 hg_3.size
          rw [← flatP_app] at own_3
          obtain ⟨g9, c9, e9, hc9⟩ := own_formg own_3 (by omega)
          subst e9
          refine hK.out _ _ (⟨x_3.cell 0, x_3.cell 1⟩) (fun hHeld2 => ?_)
          clear hK K hHeld; have hHeld := hHeld2; clear hHeld2
          try simp only [Act.put, List.setIfInBounds_toArray, List.set_cons_zero, List.set_cons_succ]
          refine wpAnyH_take (i := 14) (oi := { dst := some 141, op := Op.build 34 #[(0, Operand.tmp 128), (1, Operand.tmp 140)], type := 34, pos := "law.go:85", after := #[{ on := 1, ground := Ground.data }, { on := 13, ground := Ground.data }], guard := none }) (v := ?_) rfl (by kernel_rfl) (by kernel_rfl) (by kernel_rfl) (fun _ _ _ h => h) (Or.inl ⟨by rfl, ?_⟩) hHeld ?_
          rotate_left
          · intro w hSw
            try dsimp only at hSw
            go_simp
            try with_reducible rfl
          try simp only [Act.put, List.setIfInBounds_toArray, List.set_cons_zero, List.set_cons_succ]
          refine wpAnyH_ready (rs := [15]) (by kernel_rfl) (by simp) ?_
          refine AllReadyH.cons (o := { dst := some 17, op := Op.alloc 34, type := 0, pos := "law.go:85", after := #[], guard := none }) rfl (fun K hK => ?_) (AllReadyH.nil)
          go_simp
          have b_4 := Blk.new (W_3) 34 #[.string ByteArray.empty, .slice none 0 0]
          have iv_4 := iv_3.alloc (.cells #[.string ByteArray.empty, .slice none 0 0] 34)
          have jv_4 := jv_3.alloc (.cells #[.string ByteArray.empty, .slice none 0 0] 34)
          have x_4 := x_3.alloc (.cells #[.string ByteArray.empty, .slice none 0 0] 34)
          have y_4 := y_3.alloc (.cells #[.string ByteArray.empty, .slice none 0 0] 34)
          have b8_4 := b8_3.alloc (.cells #[.string ByteArray.empty, .slice none 0 0] 34)
          have sz_4 : W0.drew.heap.size ≤ ((W_3).alloc (.cells #[.string ByteArray.empty, .slice none 0 0] 34)).heap.size := by rw [sz1 _ _ rfl]; exact Nat.le_succ_of_le sz_3
          have own_4 := own_3.alloc (.cells #[.string ByteArray.empty, .slice none 0 0] 34)
          refine hK.out _ _ (⟨x_4.cell 0, x_4.cell 1⟩) (fun hHeld2 => ?_)
          clear hK K hHeld; have hHeld := hHeld2; clear hHeld2
          try simp only [Act.put, List.setIfInBounds_toArray, List.set_cons_zero, List.set_cons_succ]
          refine wpAnyH_ready (rs := [16]) (by kernel_rfl) (by simp) ?_
          refine AllReadyH.cons (o := { dst := none, op := Op.store 34 (Operand.tmp 17) (Operand.tmp 141), type := 0, pos := "law.go:85", after := #[{ on := 15, ground := Ground.data }, { on := 14, ground := Ground.data }, { on := 13, ground := Ground.chain }, { on := 0, ground := Ground.phase }, { on := 1, ground := Ground.phase }, { on := 2, ground := Ground.phase }, { on := 3, ground := Ground.phase }, { on := 4, ground := Ground.phase }, { on := 5, ground := Ground.phase }, { on := 6, ground := Ground.phase }, { on := 7, ground := Ground.phase }, { on := 8, ground := Ground.phase }, { on := 9, ground := Ground.phase }, { on := 10, ground := Ground.phase }, { on := 11, ground := Ground.phase }, { on := 12, ground := Ground.phase }, { on := 13, ground := Ground.phase }, { on := 14, ground := Ground.phase }, { on := 15, ground := Ground.phase }], guard := none }) rfl (fun K hK => ?_) (AllReadyH.nil)
          refine wp_store_g 34 (.tmp 17) (.tmp 141) rfl rfl _ 0 (arA z (some ⟨g9, 0, none⟩) ((n - k) + (i + 1)) c9) (arA z (some ⟨g9, 0, none⟩) ((n - k) + (i + 1)) c9) rfl rfl _ _ b_4 (by show 0 + 2 ≤ 2; decide) (by kernel_rfl) (by kernel_rfl) (by kernel_rfl) ?_
          have x_5 := Blk.rowFar x_4 (Nat.ne_of_lt (Nat.lt_of_lt_of_le x0.lt (sz_3))) (arA z (some ⟨g9, 0, none⟩) ((n - k) + (i + 1)) c9)
          have y_5 := Blk.rowFar y_4 (Nat.ne_of_lt (Nat.lt_of_lt_of_le y0.lt (sz_3))) (arA z (some ⟨g9, 0, none⟩) ((n - k) + (i + 1)) c9)
          have b8_5 := Blk.rowFar b8_4 (Nat.ne_of_lt (Nat.lt_of_lt_of_le b80.lt (sz_3))) (arA z (some ⟨g9, 0, none⟩) ((n - k) + (i + 1)) c9)
          have iv_5 := bi_row iv_4 (Nat.le_trans iv0.b.size (sz_3)) (arA z (some ⟨g9, 0, none⟩) ((n - k) + (i + 1)) c9)
          have jv_5 := bi_row jv_4 (sz_3) (arA z (some ⟨g9, 0, none⟩) ((n - k) + (i + 1)) c9)
          have own_5 := own_setRow own_4 _ (arA z (some ⟨g9, 0, none⟩) ((n - k) + (i + 1)) c9) (own_blk_ne own_4 b_4 (by decide))
          have b_5 := Blk.row b_4 (arA z (some ⟨g9, 0, none⟩) ((n - k) + (i + 1)) c9)
          refine hK.out _ _ (⟨x_5.cell 0, x_5.cell 1⟩) (fun hHeld2 => ?_)
          clear hK K hHeld; have hHeld := hHeld2; clear hHeld2
          try simp only [Act.put, List.setIfInBounds_toArray, List.set_cons_zero, List.set_cons_succ]
          refine wpAnyH_done (by kernel_rfl) ?_ _
          clear hHeld
          have hrd9 := Reads.of_own own_5
          go_wp2_with fail
          go_meet
          exact ⟨_, g9, c9, rfl, x_5, y_5, iv_5, b8_5, b_5, pts_ca pb jv_5.b, ⟨hlC, hrd9⟩⟩
        · skip
          go_simp
          have b_6 := Blk.new (W_2) 34 #[.string ByteArray.empty, .slice none 0 0]
          have iv_6 := iv_2.alloc (.cells #[.string ByteArray.empty, .slice none 0 0] 34)
          have jv_6 := jv_2.alloc (.cells #[.string ByteArray.empty, .slice none 0 0] 34)
          have x_6 := x_2.alloc (.cells #[.string ByteArray.empty, .slice none 0 0] 34)
          have y_6 := y_2.alloc (.cells #[.string ByteArray.empty, .slice none 0 0] 34)
          have b8_6 := b8_2.alloc (.cells #[.string ByteArray.empty, .slice none 0 0] 34)
          have sz_6 : W0.drew.heap.size ≤ ((W_2).alloc (.cells #[.string ByteArray.empty, .slice none 0 0] 34)).heap.size := by rw [sz1 _ _ rfl]; exact Nat.le_succ_of_le sz_2
          have own_6 := own_2.alloc (.cells #[.string ByteArray.empty, .slice none 0 0] 34)
          refine hK.out _ _ (⟨x_6.cell 0, x_6.cell 1⟩) (fun hHeld2 => ?_)
          clear hK K hHeld; have hHeld := hHeld2; clear hHeld2
          try simp only [Act.put, List.setIfInBounds_toArray, List.set_cons_zero, List.set_cons_succ]
          refine wpAnyH_ready (rs := [13]) (by kernel_rfl) (by simp) ?_
          refine AllReadyH.cons (o := { dst := some 140, op := Op.call { callee := Callee.builtin Builtin.append, args := #[Operand.tmp 134, Operand.tmp 139], argTypes := #[32, 32] }, type := 32, pos := "law.go:85", after := #[{ on := 7, ground := Ground.data }, { on := 12, ground := Ground.data }, { on := 7, ground := Ground.chain }], guard := none }) rfl (fun K hK => ?_) (AllReadyH.nil)
          refine wp_append_any _ (.tmp 134) (.tmp 139) 32 rfl W0.drew.heap.size 23 i0i _ 2 16 Try.underlying32 HI.out hz0 hz1 hz2 rfl (by decide) _ ((n - k)) _ rfl own_6 _ _ (i + 1) c (flatP (l.take (i + 1))) rfl (pts_take (hR.below iv_6.b) (by omega)).2 (flatP_one (l.take (i + 1))) (by unfold maxLen; omega) (by omega) sz_6 ?_
          intro v_7 W_7 own_7 hg_7 hat_7
          have iv_7 : BI w W_7 := Below.grown iv_6.b hg_7 iv_6.b.size (fun g hg => Nat.le_trans iv0.b.size (own_lt9 own_6 g hg).1)
          have x_7 := x_6.grown hg_7 (fun e => by have q1 := (own_lt9 own_6 _ e.symm).1; have q2 := x0.lt; omega)
          have y_7 := y_6.grown hg_7 (fun e => by have q1 := (own_lt9 own_6 _ e.symm).1; have q2 := y0.lt; omega)
          have b8_7 := b8_6.grown hg_7 (fun e => by have q1 := (own_lt9 own_6 _ e.symm).1; have q2 := b80.lt; omega)
          have jv_7 : BI W0.drew W_7 := Below.grown jv_6.b hg_7 jv_6.b.size (fun g hg => (own_lt9 own_6 g hg).1)
          have b_7 := b_6.grown hg_7 (fun e => own_blk_ne own_6 b_6 (by decide) e.symm)
          have sz_7 : W0.drew.heap.size ≤ W_7.heap.size := Nat.le_trans sz_6 hg_7.size
          rw [← flatP_app] at own_7
          obtain ⟨g9, c9, e9, hc9⟩ := own_formg own_7 (by omega)
          subst e9
          refine hK.out _ _ (⟨x_7.cell 0, x_7.cell 1⟩) (fun hHeld2 => ?_)
          clear hK K hHeld; have hHeld := hHeld2; clear hHeld2
          try simp only [Act.put, List.setIfInBounds_toArray, List.set_cons_zero, List.set_cons_succ]
          refine wpAnyH_take (i := 14) (oi := { dst := some 141, op := Op.build 34 #[(0, Operand.tmp 128), (1, Operand.tmp 140)], type := 34, pos := "law.go:85", after := #[{ on := 1, ground := Ground.data }, { on := 13, ground := Ground.data }], guard := none }) (v := ?_) rfl (by kernel_rfl) (by kernel_rfl) (by kernel_rfl) (fun _ _ _ h => h) (Or.inl ⟨by rfl, ?_⟩) hHeld ?_
          rotate_left
          · intro w hSw
            try dsimp only at hSw
            go_simp
            try with_reducible rfl
          try simp only [Act.put, List.setIfInBounds_toArray, List.set_cons_zero, List.set_cons_succ]
          refine wpAnyH_ready (rs := [16]) (by kernel_rfl) (by simp) ?_
          refine AllReadyH.cons (o := { dst := none, op := Op.store 34 (Operand.tmp 17) (Operand.tmp 141), type := 0, pos := "law.go:85", after := #[{ on := 15, ground := Ground.data }, { on := 14, ground := Ground.data }, { on := 13, ground := Ground.chain }, { on := 0, ground := Ground.phase }, { on := 1, ground := Ground.phase }, { on := 2, ground := Ground.phase }, { on := 3, ground := Ground.phase }, { on := 4, ground := Ground.phase }, { on := 5, ground := Ground.phase }, { on := 6, ground := Ground.phase }, { on := 7, ground := Ground.phase }, { on := 8, ground := Ground.phase }, { on := 9, ground := Ground.phase }, { on := 10, ground := Ground.phase }, { on := 11, ground := Ground.phase }, { on := 12, ground := Ground.phase }, { on := 13, ground := Ground.phase }, { on := 14, ground := Ground.phase }, { on := 15, ground := Ground.phase }], guard := none }) rfl (fun K hK => ?_) (AllReadyH.nil)
          refine wp_store_g 34 (.tmp 17) (.tmp 141) rfl rfl _ 0 (arA z (some ⟨g9, 0, none⟩) ((n - k) + (i + 1)) c9) (arA z (some ⟨g9, 0, none⟩) ((n - k) + (i + 1)) c9) rfl rfl _ _ b_7 (by show 0 + 2 ≤ 2; decide) (by kernel_rfl) (by kernel_rfl) (by kernel_rfl) ?_
          have x_8 := Blk.rowFar x_7 (Nat.ne_of_lt (Nat.lt_of_lt_of_le x0.lt (sz_2))) (arA z (some ⟨g9, 0, none⟩) ((n - k) + (i + 1)) c9)
          have y_8 := Blk.rowFar y_7 (Nat.ne_of_lt (Nat.lt_of_lt_of_le y0.lt (sz_2))) (arA z (some ⟨g9, 0, none⟩) ((n - k) + (i + 1)) c9)
          have b8_8 := Blk.rowFar b8_7 (Nat.ne_of_lt (Nat.lt_of_lt_of_le b80.lt (sz_2))) (arA z (some ⟨g9, 0, none⟩) ((n - k) + (i + 1)) c9)
          have iv_8 := bi_row iv_7 (Nat.le_trans iv0.b.size (sz_2)) (arA z (some ⟨g9, 0, none⟩) ((n - k) + (i + 1)) c9)
          have jv_8 := bi_row jv_7 (sz_2) (arA z (some ⟨g9, 0, none⟩) ((n - k) + (i + 1)) c9)
          have own_8 := own_setRow own_7 _ (arA z (some ⟨g9, 0, none⟩) ((n - k) + (i + 1)) c9) (own_blk_ne own_7 b_7 (by decide))
          have b_8 := Blk.row b_7 (arA z (some ⟨g9, 0, none⟩) ((n - k) + (i + 1)) c9)
          refine hK.out _ _ (⟨x_8.cell 0, x_8.cell 1⟩) (fun hHeld2 => ?_)
          clear hK K hHeld; have hHeld := hHeld2; clear hHeld2
          try simp only [Act.put, List.setIfInBounds_toArray, List.set_cons_zero, List.set_cons_succ]
          refine wpAnyH_done (by kernel_rfl) ?_ _
          clear hHeld
          have hrd9 := Reads.of_own own_8
          go_wp2_with fail
          go_meet
          exact ⟨_, g9, c9, rfl, x_8, y_8, iv_8, b8_8, b_8, pts_ca pb jv_8.b, ⟨hlC, hrd9⟩⟩
      · skip
        go_simp
        have b_9 := blk_at ((W0.drew).alloc (.cells (#[] : Array Value) 23)) 34 #[.string ByteArray.empty, .slice none 0 0] (sz1 W0.drew _ rfl)
        have iv_9 := iv_1.alloc (.cells #[.string ByteArray.empty, .slice none 0 0] 34)
        have jv_9 := jv_1.alloc (.cells #[.string ByteArray.empty, .slice none 0 0] 34)
        have x_9 := x_1.alloc (.cells #[.string ByteArray.empty, .slice none 0 0] 34)
        have y_9 := y_1.alloc (.cells #[.string ByteArray.empty, .slice none 0 0] 34)
        have b8_9 := b8_1.alloc (.cells #[.string ByteArray.empty, .slice none 0 0] 34)
        have sz_9 : W0.drew.heap.size ≤ (((W0.drew).alloc (.cells (#[] : Array Value) 23)).alloc (.cells #[.string ByteArray.empty, .slice none 0 0] 34)).heap.size := by rw [sz1 _ _ rfl]; exact Nat.le_succ_of_le sz_1
        have own_9 := own_1.alloc (.cells #[.string ByteArray.empty, .slice none 0 0] 34)
        refine hK.out _ _ (⟨x_9.cell 0, x_9.cell 1⟩) (fun hHeld2 => ?_)
        clear hK K hHeld; have hHeld := hHeld2; clear hHeld2
        try simp only [Act.put, List.setIfInBounds_toArray, List.set_cons_zero, List.set_cons_succ]
        refine wpAnyH_ready (rs := [7]) (by kernel_rfl) (by simp) ?_
        refine AllReadyH.cons (o := { dst := some 134, op := Op.call { callee := Callee.builtin Builtin.append, args := #[Operand.tmp 129, Operand.tmp 133], argTypes := #[32, 32] }, type := 32, pos := "law.go:85", after := #[{ on := 2, ground := Ground.data }, { on := 6, ground := Ground.data }], guard := none }) rfl (fun K hK => ?_) (AllReadyH.nil)
        refine wp_append_any _ (.tmp 129) (.tmp 133) 32 rfl W0.drew.heap.size 23 i0i _ 2 16 Try.underlying32 HI.out hz0 hz1 hz2 rfl (by decide) _ (0) _ rfl own_9 _ _ (n - k) (c - k) (flatP (l.drop k)) rfl (pts_drop (hR.below iv_9.b) (by omega)).2 (flatP_one (l.drop k)) (by unfold maxLen; omega) (by omega) sz_9 ?_
        intro v_10 W_10 own_10 hg_10 hat_10
        have iv_10 : BI w W_10 := Below.grown iv_9.b hg_10 iv_9.b.size (fun g hg => Nat.le_trans iv0.b.size (own_lt9 own_9 g hg).1)
        have x_10 := x_9.grown hg_10 (fun e => by have q1 := (own_lt9 own_9 _ e.symm).1; have q2 := x0.lt; omega)
        have y_10 := y_9.grown hg_10 (fun e => by have q1 := (own_lt9 own_9 _ e.symm).1; have q2 := y0.lt; omega)
        have b8_10 := b8_9.grown hg_10 (fun e => by have q1 := (own_lt9 own_9 _ e.symm).1; have q2 := b80.lt; omega)
        have jv_10 : BI W0.drew W_10 := Below.grown jv_9.b hg_10 jv_9.b.size (fun g hg => (own_lt9 own_9 g hg).1)
        have b_10 := b_9.grown hg_10 (fun e => own_blk_ne own_9 b_9 (by decide) e.symm)
        have sz_10 : W0.drew.heap.size ≤ W_10.heap.size := Nat.le_trans sz_9 hg_10.size
        rw [Nat.zero_add, List.nil_append] at own_10
        obtain ⟨g9, c9, e9, hc9⟩ := own_formg own_10 (by omega)
        subst e9
        refine hK.out _ _ (⟨x_10.cell 0, x_10.cell 1⟩) (fun hHeld2 => ?_)
        clear hK K hHeld; have hHeld := hHeld2; clear hHeld2
        try simp only [Act.put, List.setIfInBounds_toArray, List.set_cons_zero, List.set_cons_succ]
        refine wpAnyH_ready (rs := [13]) (by kernel_rfl) (by simp) ?_
        refine AllReadyH.cons (o := { dst := some 140, op := Op.call { callee := Callee.builtin Builtin.append, args := #[Operand.tmp 134, Operand.tmp 139], argTypes := #[32, 32] }, type := 32, pos := "law.go:85", after := #[{ on := 7, ground := Ground.data }, { on := 12, ground := Ground.data }, { on := 7, ground := Ground.chain }], guard := none }) rfl (fun K hK => ?_) (AllReadyH.nil)
        refine wp_append_any _ (.tmp 134) (.tmp 139) 32 rfl W0.drew.heap.size 23 i0i _ 2 16 Try.underlying32 HI.out hz0 hz1 hz2 rfl (by decide) _ ((n - k)) _ rfl own_10 _ _ (i + 1) c (flatP (l.take (i + 1))) rfl (pts_take (hR.below iv_10.b) (by omega)).2 (flatP_one (l.take (i + 1))) (by unfold maxLen; omega) (by omega) sz_10 ?_
        intro v_11 W_11 own_11 hg_11 hat_11
        have iv_11 : BI w W_11 := Below.grown iv_10.b hg_11 iv_10.b.size (fun g hg => Nat.le_trans iv0.b.size (own_lt9 own_10 g hg).1)
        have x_11 := x_10.grown hg_11 (fun e => by have q1 := (own_lt9 own_10 _ e.symm).1; have q2 := x0.lt; omega)
        have y_11 := y_10.grown hg_11 (fun e => by have q1 := (own_lt9 own_10 _ e.symm).1; have q2 := y0.lt; omega)
        have b8_11 := b8_10.grown hg_11 (fun e => by have q1 := (own_lt9 own_10 _ e.symm).1; have q2 := b80.lt; omega)
        have jv_11 : BI W0.drew W_11 := Below.grown jv_10.b hg_11 jv_10.b.size (fun g hg => (own_lt9 own_10 g hg).1)
        have b_11 := b_10.grown hg_11 (fun e => own_blk_ne own_10 b_10 (by decide) e.symm)
        have sz_11 : W0.drew.heap.size ≤ W_11.heap.size := Nat.le_trans sz_10 hg_11.size
        rw [← flatP_app] at own_11
        obtain ⟨g9, c9, e9, hc9⟩ := own_formg own_11 (by omega)
        subst e9
        refine hK.out _ _ (⟨x_11.cell 0, x_11.cell 1⟩) (fun hHeld2 => ?_)
        clear hK K hHeld; have hHeld := hHeld2; clear hHeld2
        try simp only [Act.put, List.setIfInBounds_toArray, List.set_cons_zero, List.set_cons_succ]
        refine wpAnyH_take (i := 14) (oi := { dst := some 141, op := Op.build 34 #[(0, Operand.tmp 128), (1, Operand.tmp 140)], type := 34, pos := "law.go:85", after := #[{ on := 1, ground := Ground.data }, { on := 13, ground := Ground.data }], guard := none }) (v := ?_) rfl (by kernel_rfl) (by kernel_rfl) (by kernel_rfl) (fun _ _ _ h => h) (Or.inl ⟨by rfl, ?_⟩) hHeld ?_
        rotate_left
        · intro w hSw
          try dsimp only at hSw
          go_simp
          try with_reducible rfl
        try simp only [Act.put, List.setIfInBounds_toArray, List.set_cons_zero, List.set_cons_succ]
        refine wpAnyH_ready (rs := [16]) (by kernel_rfl) (by simp) ?_
        refine AllReadyH.cons (o := { dst := none, op := Op.store 34 (Operand.tmp 17) (Operand.tmp 141), type := 0, pos := "law.go:85", after := #[{ on := 15, ground := Ground.data }, { on := 14, ground := Ground.data }, { on := 13, ground := Ground.chain }, { on := 0, ground := Ground.phase }, { on := 1, ground := Ground.phase }, { on := 2, ground := Ground.phase }, { on := 3, ground := Ground.phase }, { on := 4, ground := Ground.phase }, { on := 5, ground := Ground.phase }, { on := 6, ground := Ground.phase }, { on := 7, ground := Ground.phase }, { on := 8, ground := Ground.phase }, { on := 9, ground := Ground.phase }, { on := 10, ground := Ground.phase }, { on := 11, ground := Ground.phase }, { on := 12, ground := Ground.phase }, { on := 13, ground := Ground.phase }, { on := 14, ground := Ground.phase }, { on := 15, ground := Ground.phase }], guard := none }) rfl (fun K hK => ?_) (AllReadyH.nil)
        refine wp_store_g 34 (.tmp 17) (.tmp 141) rfl rfl _ 0 (arA z (some ⟨g9, 0, none⟩) ((n - k) + (i + 1)) c9) (arA z (some ⟨g9, 0, none⟩) ((n - k) + (i + 1)) c9) rfl rfl _ _ b_11 (by show 0 + 2 ≤ 2; decide) (by kernel_rfl) (by kernel_rfl) (by kernel_rfl) ?_
        have x_12 := Blk.rowFar x_11 (Nat.ne_of_lt (Nat.lt_of_lt_of_le x0.lt (Nat.le_succ _))) (arA z (some ⟨g9, 0, none⟩) ((n - k) + (i + 1)) c9)
        have y_12 := Blk.rowFar y_11 (Nat.ne_of_lt (Nat.lt_of_lt_of_le y0.lt (Nat.le_succ _))) (arA z (some ⟨g9, 0, none⟩) ((n - k) + (i + 1)) c9)
        have b8_12 := Blk.rowFar b8_11 (Nat.ne_of_lt (Nat.lt_of_lt_of_le b80.lt (Nat.le_succ _))) (arA z (some ⟨g9, 0, none⟩) ((n - k) + (i + 1)) c9)
        have iv_12 := bi_row iv_11 (Nat.le_trans iv0.b.size (Nat.le_succ _)) (arA z (some ⟨g9, 0, none⟩) ((n - k) + (i + 1)) c9)
        have jv_12 := bi_row jv_11 (Nat.le_succ _) (arA z (some ⟨g9, 0, none⟩) ((n - k) + (i + 1)) c9)
        have own_12 := own_setRow own_11 _ (arA z (some ⟨g9, 0, none⟩) ((n - k) + (i + 1)) c9) (own_blk_ne own_11 b_11 (by decide))
        have b_12 := Blk.row b_11 (arA z (some ⟨g9, 0, none⟩) ((n - k) + (i + 1)) c9)
        refine hK.out _ _ (⟨x_12.cell 0, x_12.cell 1⟩) (fun hHeld2 => ?_)
        clear hK K hHeld; have hHeld := hHeld2; clear hHeld2
        try simp only [Act.put, List.setIfInBounds_toArray, List.set_cons_zero, List.set_cons_succ]
        refine wpAnyH_done (by kernel_rfl) ?_ _
        clear hHeld
        have hrd9 := Reads.of_own own_12
        go_wp2_with fail
        go_meet
        exact ⟨_, g9, c9, rfl, x_12, y_12, iv_12, b8_12, b_12, pts_ca pb jv_12.b, ⟨hlC, hrd9⟩⟩
    · skip
      go_simp
      have b_13 := Blk.new (W0.drew) 34 #[.string ByteArray.empty, .slice none 0 0]
      have iv_13 := iv0.alloc (.cells #[.string ByteArray.empty, .slice none 0 0] 34)
      have jv_13 := jv0.alloc (.cells #[.string ByteArray.empty, .slice none 0 0] 34)
      have x_13 := x0.alloc (.cells #[.string ByteArray.empty, .slice none 0 0] 34)
      have y_13 := y0.alloc (.cells #[.string ByteArray.empty, .slice none 0 0] 34)
      have b8_13 := b80.alloc (.cells #[.string ByteArray.empty, .slice none 0 0] 34)
      have sz_13 : W0.drew.heap.size ≤ ((W0.drew).alloc (.cells #[.string ByteArray.empty, .slice none 0 0] 34)).heap.size := by rw [sz1 _ _ rfl]; exact Nat.le_succ_of_le (Nat.le_refl W0.drew.heap.size)
      refine hK.out _ _ (⟨x_13.cell 0, x_13.cell 1⟩) (fun hHeld2 => ?_)
      clear hK K hHeld; have hHeld := hHeld2; clear hHeld2
      try simp only [Act.put, List.setIfInBounds_toArray, List.set_cons_zero, List.set_cons_succ]
      refine wpAnyH_ready (rs := [2]) (by kernel_rfl) (by simp) ?_
      refine AllReadyH.cons (o := { dst := some 129, op := Op.buildSlice 32 0 #[], type := 32, pos := "law.go:85", after := #[], guard := none }) rfl (fun K hK => ?_) (AllReadyH.nil)
      go_simp
      have own_14 := own_x (base := W0.drew.heap.size) ((W0.drew).alloc (.cells #[.string ByteArray.empty, .slice none 0 0] 34)) sz_13
      rw [sz1 W0.drew _ rfl] at own_14
      have iv_14 := iv_13.alloc (.cells (#[] : Array Value) 23)
      have jv_14 := jv_13.alloc (.cells (#[] : Array Value) 23)
      have x_14 := x_13.alloc (.cells (#[] : Array Value) 23)
      have y_14 := y_13.alloc (.cells (#[] : Array Value) 23)
      have b8_14 := b8_13.alloc (.cells (#[] : Array Value) 23)
      have sz_14 : W0.drew.heap.size ≤ (((W0.drew).alloc (.cells #[.string ByteArray.empty, .slice none 0 0] 34)).alloc (.cells (#[] : Array Value) 23)).heap.size := by rw [sz1 _ _ rfl]; exact Nat.le_succ_of_le sz_13
      have b_14 := b_13.alloc (.cells (#[] : Array Value) 23)
      refine hK.out _ _ (⟨x_14.cell 0, x_14.cell 1⟩) (fun hHeld2 => ?_)
      clear hK K hHeld; have hHeld := hHeld2; clear hHeld2
      try simp only [Act.put, List.setIfInBounds_toArray, List.set_cons_zero, List.set_cons_succ]
      refine wpAnyH_ready (rs := [7]) (by kernel_rfl) (by simp) ?_
      refine AllReadyH.cons (o := { dst := some 134, op := Op.call { callee := Callee.builtin Builtin.append, args := #[Operand.tmp 129, Operand.tmp 133], argTypes := #[32, 32] }, type := 32, pos := "law.go:85", after := #[{ on := 2, ground := Ground.data }, { on := 6, ground := Ground.data }], guard := none }) rfl (fun K hK => ?_) (AllReadyH.nil)
      refine wp_append_any _ (.tmp 129) (.tmp 133) 32 rfl W0.drew.heap.size 23 i0i _ 2 16 Try.underlying32 HI.out hz0 hz1 hz2 rfl (by decide) _ (0) _ rfl own_14 _ _ (n - k) (c - k) (flatP (l.drop k)) rfl (pts_drop (hR.below iv_14.b) (by omega)).2 (flatP_one (l.drop k)) (by unfold maxLen; omega) (by omega) sz_14 ?_
      intro v_15 W_15 own_15 hg_15 hat_15
      have iv_15 : BI w W_15 := Below.grown iv_14.b hg_15 iv_14.b.size (fun g hg => Nat.le_trans iv0.b.size (own_lt9 own_14 g hg).1)
      have x_15 := x_14.grown hg_15 (fun e => by have q1 := (own_lt9 own_14 _ e.symm).1; have q2 := x0.lt; omega)
      have y_15 := y_14.grown hg_15 (fun e => by have q1 := (own_lt9 own_14 _ e.symm).1; have q2 := y0.lt; omega)
      have b8_15 := b8_14.grown hg_15 (fun e => by have q1 := (own_lt9 own_14 _ e.symm).1; have q2 := b80.lt; omega)
      have jv_15 : BI W0.drew W_15 := Below.grown jv_14.b hg_15 jv_14.b.size (fun g hg => (own_lt9 own_14 g hg).1)
      have b_15 := b_14.grown hg_15 (fun e => own_blk_ne own_14 b_14 (by decide) e.symm)
      have sz_15 : W0.drew.heap.size ≤ W_15.heap.size := Nat.le_trans sz_14 hg_15.size
      rw [Nat.zero_add, List.nil_append] at own_15
      obtain ⟨g9, c9, e9, hc9⟩ := own_formg own_15 (by omega)
      subst e9
      refine hK.out _ _ (⟨x_15.cell 0, x_15.cell 1⟩) (fun hHeld2 => ?_)
      clear hK K hHeld; have hHeld := hHeld2; clear hHeld2
      try simp only [Act.put, List.setIfInBounds_toArray, List.set_cons_zero, List.set_cons_succ]
      refine wpAnyH_ready (rs := [13]) (by kernel_rfl) (by simp) ?_
      refine AllReadyH.cons (o := { dst := some 140, op := Op.call { callee := Callee.builtin Builtin.append, args := #[Operand.tmp 134, Operand.tmp 139], argTypes := #[32, 32] }, type := 32, pos := "law.go:85", after := #[{ on := 7, ground := Ground.data }, { on := 12, ground := Ground.data }, { on := 7, ground := Ground.chain }], guard := none }) rfl (fun K hK => ?_) (AllReadyH.nil)
      refine wp_append_any _ (.tmp 134) (.tmp 139) 32 rfl W0.drew.heap.size 23 i0i _ 2 16 Try.underlying32 HI.out hz0 hz1 hz2 rfl (by decide) _ ((n - k)) _ rfl own_15 _ _ (i + 1) c (flatP (l.take (i + 1))) rfl (pts_take (hR.below iv_15.b) (by omega)).2 (flatP_one (l.take (i + 1))) (by unfold maxLen; omega) (by omega) sz_15 ?_
      intro v_16 W_16 own_16 hg_16 hat_16
      have iv_16 : BI w W_16 := Below.grown iv_15.b hg_16 iv_15.b.size (fun g hg => Nat.le_trans iv0.b.size (own_lt9 own_15 g hg).1)
      have x_16 := x_15.grown hg_16 (fun e => by have q1 := (own_lt9 own_15 _ e.symm).1; have q2 := x0.lt; omega)
      have y_16 := y_15.grown hg_16 (fun e => by have q1 := (own_lt9 own_15 _ e.symm).1; have q2 := y0.lt; omega)
      have b8_16 := b8_15.grown hg_16 (fun e => by have q1 := (own_lt9 own_15 _ e.symm).1; have q2 := b80.lt; omega)
      have jv_16 : BI W0.drew W_16 := Below.grown jv_15.b hg_16 jv_15.b.size (fun g hg => (own_lt9 own_15 g hg).1)
      have b_16 := b_15.grown hg_16 (fun e => own_blk_ne own_15 b_15 (by decide) e.symm)
      have sz_16 : W0.drew.heap.size ≤ W_16.heap.size := Nat.le_trans sz_15 hg_16.size
      rw [← flatP_app] at own_16
      obtain ⟨g9, c9, e9, hc9⟩ := own_formg own_16 (by omega)
      subst e9
      refine hK.out _ _ (⟨x_16.cell 0, x_16.cell 1⟩) (fun hHeld2 => ?_)
      clear hK K hHeld; have hHeld := hHeld2; clear hHeld2
      try simp only [Act.put, List.setIfInBounds_toArray, List.set_cons_zero, List.set_cons_succ]
      refine wpAnyH_take (i := 14) (oi := { dst := some 141, op := Op.build 34 #[(0, Operand.tmp 128), (1, Operand.tmp 140)], type := 34, pos := "law.go:85", after := #[{ on := 1, ground := Ground.data }, { on := 13, ground := Ground.data }], guard := none }) (v := ?_) rfl (by kernel_rfl) (by kernel_rfl) (by kernel_rfl) (fun _ _ _ h => h) (Or.inl ⟨by rfl, ?_⟩) hHeld ?_
      rotate_left
      · intro w hSw
        try dsimp only at hSw
        go_simp
        try with_reducible rfl
      try simp only [Act.put, List.setIfInBounds_toArray, List.set_cons_zero, List.set_cons_succ]
      refine wpAnyH_ready (rs := [16]) (by kernel_rfl) (by simp) ?_
      refine AllReadyH.cons (o := { dst := none, op := Op.store 34 (Operand.tmp 17) (Operand.tmp 141), type := 0, pos := "law.go:85", after := #[{ on := 15, ground := Ground.data }, { on := 14, ground := Ground.data }, { on := 13, ground := Ground.chain }, { on := 0, ground := Ground.phase }, { on := 1, ground := Ground.phase }, { on := 2, ground := Ground.phase }, { on := 3, ground := Ground.phase }, { on := 4, ground := Ground.phase }, { on := 5, ground := Ground.phase }, { on := 6, ground := Ground.phase }, { on := 7, ground := Ground.phase }, { on := 8, ground := Ground.phase }, { on := 9, ground := Ground.phase }, { on := 10, ground := Ground.phase }, { on := 11, ground := Ground.phase }, { on := 12, ground := Ground.phase }, { on := 13, ground := Ground.phase }, { on := 14, ground := Ground.phase }, { on := 15, ground := Ground.phase }], guard := none }) rfl (fun K hK => ?_) (AllReadyH.nil)
      refine wp_store_g 34 (.tmp 17) (.tmp 141) rfl rfl _ 0 (arA z (some ⟨g9, 0, none⟩) ((n - k) + (i + 1)) c9) (arA z (some ⟨g9, 0, none⟩) ((n - k) + (i + 1)) c9) rfl rfl _ _ b_16 (by show 0 + 2 ≤ 2; decide) (by kernel_rfl) (by kernel_rfl) (by kernel_rfl) ?_
      have x_17 := Blk.rowFar x_16 (Nat.ne_of_lt (Nat.lt_of_lt_of_le x0.lt (Nat.le_refl _))) (arA z (some ⟨g9, 0, none⟩) ((n - k) + (i + 1)) c9)
      have y_17 := Blk.rowFar y_16 (Nat.ne_of_lt (Nat.lt_of_lt_of_le y0.lt (Nat.le_refl _))) (arA z (some ⟨g9, 0, none⟩) ((n - k) + (i + 1)) c9)
      have b8_17 := Blk.rowFar b8_16 (Nat.ne_of_lt (Nat.lt_of_lt_of_le b80.lt (Nat.le_refl _))) (arA z (some ⟨g9, 0, none⟩) ((n - k) + (i + 1)) c9)
      have iv_17 := bi_row iv_16 (Nat.le_trans iv0.b.size (Nat.le_refl _)) (arA z (some ⟨g9, 0, none⟩) ((n - k) + (i + 1)) c9)
      have jv_17 := bi_row jv_16 (Nat.le_refl _) (arA z (some ⟨g9, 0, none⟩) ((n - k) + (i + 1)) c9)
      have own_17 := own_setRow own_16 _ (arA z (some ⟨g9, 0, none⟩) ((n - k) + (i + 1)) c9) (own_blk_ne own_16 b_16 (by decide))
      have b_17 := Blk.row b_16 (arA z (some ⟨g9, 0, none⟩) ((n - k) + (i + 1)) c9)
      refine hK.out _ _ (⟨x_17.cell 0, x_17.cell 1⟩) (fun hHeld2 => ?_)
      clear hK K hHeld; have hHeld := hHeld2; clear hHeld2
      try simp only [Act.put, List.setIfInBounds_toArray, List.set_cons_zero, List.set_cons_succ]
      refine wpAnyH_done (by kernel_rfl) ?_ _
      clear hHeld
      have hrd9 := Reads.of_own own_17
      go_wp2_with fail
      go_meet
      exact ⟨_, g9, c9, rfl, x_17, y_17, iv_17, b8_17, b_17, pts_ca pb jv_17.b, ⟨hlC, hrd9⟩⟩
  case rest =>
  clear x0 y0 iv0 jv0 b80 pb r16a r16b w1 w2'
  obtain ⟨uc, gc, cc, rfl, x9, y9, i9, b9, c9, pb, pc⟩ := hcut
  obtain ⟨W3, rfl⟩ : ∃ W : World, W = wc := ⟨_, rfl⟩
  have pa := Pts.more (hR.below i9.b) i9.b.size
  have hmB : k - i + 1 ≤ maxLen := by unfold maxLen; omega
  have hmC : n - k + (i + 1) ≤ maxLen := by unfold maxLen; omega
  have zA := fun W h => size_any z (some ad) n c l W hz h hm
  have zB := fun W h => size_any z (some ⟨gb, 0, none⟩) (k - i + 1) cb (cutB l i k) W hz h hmB
  have zC := fun W h => size_any z (some ⟨gc, 0, none⟩) (n - k + (i + 1)) cc (cutC l i k) W hz h hmC
  have eB := fun W h => Edge_any z (some ⟨gb, 0, none⟩) (k - i + 1) cb (cutB l i k) p W hz h hmB
  have eC := fun W h => Edge_any z (some ⟨gc, 0, none⟩) (n - k + (i + 1)) cc (cutC l i k) p W hz h hmC
  have nA := fun W h => Inside_any z (some ad) n c l p W hz h hm
  have nB := fun W h => Inside_any z (some ⟨gb, 0, none⟩) (k - i + 1) cb (cutB l i k) p W hz h hmB
  have nC := fun W h => Inside_any z (some ⟨gc, 0, none⟩) (n - k + (i + 1)) cc (cutC l i k) p W hz h hmC
  rw [rB] at eB nB
  rw [rC] at eC nC
  rw [hrt] at nA
  simp only [Bool.true_and] at eB eC nA nB nC
  clear rB rC hrt hmB hmC hik hkn hik1 q1 q2 q3 hlB hlC HOK HCUT
  generalize cutB l i k = lb at *
  generalize cutC l i k = lc at *
  generalize k - i + 1 = nb at *
  generalize n - k + (i + 1) = nc at *
  generalize szV z lb = SB at *
  generalize szV z lc = SC at *
  generalize szV z l = SA at *
  have hsum := HW.out
  have hsne : (SA != SA) = false := by simp
  go_upto_region 17 with fail
  have ZZ := Lib.hid (cm_mk (W := W3.drew) i9.drew (show Pts W3.drew W3.drew.heap.size _ _ _ from pa) (show Pts W3.drew W3.drew.heap.size _ _ _ from pb) (show Pts W3.drew W3.drew.heap.size _ _ _ from pc) x9 y9 b9 c9)
  clear x9 y9 b9 c9 i9 pa pb pc
  refine wp_region_held_drew (S := fun w' => BI w w' ∧ Pts w' w'.heap.size (some ad) n l ∧ Pts w' w'.heap.size (some ⟨gb, 0, none⟩) nb lb ∧ Pts w' w'.heap.size (some ⟨gc, 0, none⟩) nc lc ∧ Blk w' w.heap.size 34 (arA z (some ad) n c) ∧ Blk w' (w.heap.size + 1) 23 p.A ∧ Blk w' ub 34 (arA z (some ⟨gb, 0, none⟩) nb cb) ∧ Blk w' uc 34 (arA z (some ⟨gc, 0, none⟩) nc cc) ∧ ldT 34 (.pointer (some ⟨w.heap.size, 0, none⟩)) w' = some (arA z (some ad) n c) ∧ ldT 23 (.pointer (some ⟨w.heap.size + 1, 0, none⟩)) w' = some p.A ∧ ldT 34 (.pointer (some ⟨ub, 0, none⟩)) w' = some (arA z (some ⟨gb, 0, none⟩) nb cb) ∧ ldT 34 (.pointer (some ⟨uc, 0, none⟩)) w' = some (arA z (some ⟨gc, 0, none⟩) nc cc)) (by kernel_rfl) (ZZ.out) (fun hHeld => ?_)
  refine wpAnyH_take (i := 0) (oi := { dst := some 142, op := Op.load 34 (Operand.tmp 16), type := 34, pos := "law.go:86", after := #[], guard := none }) (v := ?_) rfl (by kernel_rfl) (by kernel_rfl) (by kernel_rfl) (fun _ _ _ h => h) (Or.inl ⟨by rfl, ?_⟩) hHeld ?_
  rotate_left
  · intro w hSw
    try dsimp only at hSw
    go_simp
    try with_reducible rfl
  try simp only [Act.put, List.setIfInBounds_toArray, List.set_cons_zero, List.set_cons_succ]
  refine wpAnyH_take (i := 2) (oi := { dst := some 144, op := Op.load 34 (Operand.tmp 17), type := 34, pos := "law.go:86", after := #[], guard := none }) (v := ?_) rfl (by kernel_rfl) (by kernel_rfl) (by kernel_rfl) (fun _ _ _ h => h) (Or.inl ⟨by rfl, ?_⟩) hHeld ?_
  rotate_left
  · intro w hSw
    try dsimp only at hSw
    go_simp
    try with_reducible rfl
  try simp only [Act.put, List.setIfInBounds_toArray, List.set_cons_zero, List.set_cons_succ]
  refine wpAnyH_take (i := 5) (oi := { dst := some 147, op := Op.load 34 (Operand.tmp 4), type := 34, pos := "law.go:86", after := #[], guard := none }) (v := ?_) rfl (by kernel_rfl) (by kernel_rfl) (by kernel_rfl) (fun _ _ _ h => h) (Or.inl ⟨by rfl, ?_⟩) hHeld ?_
  rotate_left
  · intro w hSw
    try dsimp only at hSw
    go_simp
    try with_reducible rfl
  try simp only [Act.put, List.setIfInBounds_toArray, List.set_cons_zero, List.set_cons_succ]
  refine wpAnyH_ready (rs := [1]) (by kernel_rfl) (by simp) ?_
  refine AllReadyH.cons (o := { dst := some 143, op := Op.call { callee := Callee.value (Operand.func 29), args := #[Operand.tmp 142], argTypes := #[34] }, type := 2, pos := "law.go:86", after := #[{ on := 0, ground := Ground.data }], guard := none }) rfl (fun K hK => ?_) (AllReadyH.nil)
  go_simp
  refine (zB _ hHeld.2.2.1).mono ?_; rintro e w_51 ⟨rfl, hb_51⟩
  try go_wp2_with fail
  refine hK.out _ _ (cm_on hHeld hb_51) (fun hHeld2 => ?_)
  clear hK K hHeld; have hHeld := hHeld2; clear hHeld2
  try simp only [Act.put, List.setIfInBounds_toArray, List.set_cons_zero, List.set_cons_succ]
  refine wpAnyH_ready (rs := [3]) (by kernel_rfl) (by simp) ?_
  refine AllReadyH.cons (o := { dst := some 145, op := Op.call { callee := Callee.value (Operand.func 29), args := #[Operand.tmp 144], argTypes := #[34] }, type := 2, pos := "law.go:86", after := #[{ on := 2, ground := Ground.data }, { on := 1, ground := Ground.chain }], guard := none }) rfl (fun K hK => ?_) (AllReadyH.nil)
  go_simp
  refine (zC _ hHeld.2.2.2.1).mono ?_; rintro e w_52 ⟨rfl, hb_52⟩
  try go_wp2_with fail
  refine hK.out _ _ (cm_on hHeld hb_52) (fun hHeld2 => ?_)
  clear hK K hHeld; have hHeld := hHeld2; clear hHeld2
  try simp only [Act.put, List.setIfInBounds_toArray, List.set_cons_zero, List.set_cons_succ]
  refine wpAnyH_take (i := 4) (oi := { dst := some 146, op := Op.binOp BinOp.add 2 (Operand.tmp 143) (Operand.tmp 145) 2, type := 2, pos := "law.go:86", after := #[{ on := 1, ground := Ground.data }, { on := 3, ground := Ground.data }], guard := none }) (v := ?_) rfl (by kernel_rfl) (by kernel_rfl) (by kernel_rfl) (fun _ _ _ h => h) (Or.inl ⟨by rfl, ?_⟩) hHeld ?_
  rotate_left
  · intro w hSw
    try dsimp only at hSw
    go_simp
    try with_reducible rfl
  try simp only [Act.put, List.setIfInBounds_toArray, List.set_cons_zero, List.set_cons_succ]
  refine wpAnyH_ready (rs := [6]) (by kernel_rfl) (by simp) ?_
  refine AllReadyH.cons (o := { dst := some 148, op := Op.call { callee := Callee.value (Operand.func 29), args := #[Operand.tmp 147], argTypes := #[34] }, type := 2, pos := "law.go:86", after := #[{ on := 5, ground := Ground.data }, { on := 3, ground := Ground.chain }], guard := none }) rfl (fun K hK => ?_) (AllReadyH.nil)
  go_simp
  refine (zA _ hHeld.2.1).mono ?_; rintro e w_53 ⟨rfl, hb_53⟩
  try go_wp2_with fail
  refine hK.out _ _ (cm_on hHeld hb_53) (fun hHeld2 => ?_)
  clear hK K hHeld; have hHeld := hHeld2; clear hHeld2
  try simp only [Act.put, List.setIfInBounds_toArray, List.set_cons_zero, List.set_cons_succ]
  refine wpAnyH_take (i := 7) (oi := { dst := some 149, op := Op.binOp BinOp.neq 2 (Operand.tmp 146) (Operand.tmp 148) 2, type := 4, pos := "law.go:86", after := #[{ on := 4, ground := Ground.data }, { on := 6, ground := Ground.data }], guard := none }) (v := ?_) rfl (by kernel_rfl) (by kernel_rfl) (by kernel_rfl) (fun _ _ _ h => h) (Or.inl ⟨by rfl, ?_⟩) hHeld ?_
  rotate_left
  · intro w hSw
    try dsimp only at hSw
    go_simp
    try with_reducible rfl
  try simp only [Act.put, List.setIfInBounds_toArray, List.set_cons_zero, List.set_cons_succ]
  refine wpAnyH_done (by kernel_rfl) ?_ _
  obtain ⟨j1, j2, j3, j4, jx, jy, jb, jc, -⟩ := hHeld
  clear ZZ hsum
  cases hEB : edB lb p
  rotate_left
  · rw [hEB] at eB
    clear hEB HIL
    go_wp2_with (first | refine wpList_row_g rfl 34 _ rfl _ rfl _ _ _ _ jb Try.underlying34 rfl (by kernel_rfl) ?_ | refine wpList_row_g rfl 23 _ rfl _ rfl _ _ _ _ jy Try.underlying23 rfl (by kernel_rfl) ?_)
    refine (eB _ j3).mono ?_; rintro e wa ⟨rfl, hba⟩
    have ja := j1.call hba
    go_wp2_with fail
    go_ret
    exact ⟨rfl, ja⟩
  rw [hEB] at eB
  go_wp2_with (first | refine wpList_row_g rfl 34 _ rfl _ rfl _ _ _ _ jb Try.underlying34 rfl (by kernel_rfl) ?_ | refine wpList_row_g rfl 23 _ rfl _ rfl _ _ _ _ jy Try.underlying23 rfl (by kernel_rfl) ?_)
  refine (eB _ j3).mono ?_; rintro e wa ⟨rfl, hba⟩
  replace jx := jx.below hba jx.lt; replace jy := jy.below hba jy.lt; replace jb := jb.below hba jb.lt; replace jc := jc.below hba jc.lt
  replace j2 := pts_ca j2 hba; replace j3 := pts_ca j3 hba; replace j4 := pts_ca j4 hba
  replace j1 := j1.call hba
  clear hba eB
  cases hEC : edB lc p
  rotate_left
  · rw [hEC] at eC
    clear hEC hEB HIL
    go_wp2_with (first | refine wpList_row_g rfl 34 _ rfl _ rfl _ _ _ _ jc Try.underlying34 rfl (by kernel_rfl) ?_ | refine wpList_row_g rfl 23 _ rfl _ rfl _ _ _ _ jy Try.underlying23 rfl (by kernel_rfl) ?_)
    refine (eC _ j4).mono ?_; rintro e wb ⟨rfl, hbb⟩
    have ja := j1.call hbb
    go_wp2_with fail
    go_ret
    exact ⟨rfl, ja⟩
  rw [hEC] at eC
  have hfin := HIL.out hEB hEC
  go_wp2_with (first | refine wpList_row_g rfl 34 _ rfl _ rfl _ _ _ _ jc Try.underlying34 rfl (by kernel_rfl) ?_ | refine wpList_row_g rfl 23 _ rfl _ rfl _ _ _ _ jy Try.underlying23 rfl (by kernel_rfl) ?_)
  refine (eC _ j4).mono ?_; rintro e wb ⟨rfl, hbb⟩
  replace jx := jx.below hbb jx.lt; replace jy := jy.below hbb jy.lt; replace jb := jb.below hbb jb.lt; replace jc := jc.below hbb jc.lt
  replace j2 := pts_ca j2 hbb; replace j3 := pts_ca j3 hbb; replace j4 := pts_ca j4 hbb
  replace j1 := j1.call hbb
  clear hbb eC HIL hEB hEC zA zB zC
  rw [hfin] at nA
  clear hfin
  generalize inB lb p = IB at *
  generalize inB lc p = IC at *
  go_upto_region 21 with fail
  have ZZ := Lib.hid (cm_mk (W := wb.drew) j1.drew (show Pts wb.drew wb.drew.heap.size _ _ _ from j2) (show Pts wb.drew wb.drew.heap.size _ _ _ from j3) (show Pts wb.drew wb.drew.heap.size _ _ _ from j4) jx jy jb jc)
  clear jx jy jb jc j1 j2 j3 j4
  cases IB <;> cases IC
  all_goals
    refine wp_region_held_drew (S := fun w' => BI w w' ∧ Pts w' w'.heap.size (some ad) n l ∧ Pts w' w'.heap.size (some ⟨gb, 0, none⟩) nb lb ∧ Pts w' w'.heap.size (some ⟨gc, 0, none⟩) nc lc ∧ Blk w' w.heap.size 34 (arA z (some ad) n c) ∧ Blk w' (w.heap.size + 1) 23 p.A ∧ Blk w' ub 34 (arA z (some ⟨gb, 0, none⟩) nb cb) ∧ Blk w' uc 34 (arA z (some ⟨gc, 0, none⟩) nc cc) ∧ ldT 34 (.pointer (some ⟨w.heap.size, 0, none⟩)) w' = some (arA z (some ad) n c) ∧ ldT 23 (.pointer (some ⟨w.heap.size + 1, 0, none⟩)) w' = some p.A ∧ ldT 34 (.pointer (some ⟨ub, 0, none⟩)) w' = some (arA z (some ⟨gb, 0, none⟩) nb cb) ∧ ldT 34 (.pointer (some ⟨uc, 0, none⟩)) w' = some (arA z (some ⟨gc, 0, none⟩) nc cc)) (by kernel_rfl) (ZZ.out) (fun hHeld => ?_)
    refine wpAnyH_take (i := 0) (oi := { dst := some 158, op := Op.load 34 (Operand.tmp 4), type := 34, pos := "law.go:92", after := #[], guard := none }) (v := ?_) rfl (by kernel_rfl) (by kernel_rfl) (by kernel_rfl) (fun _ _ _ h => h) (Or.inl ⟨by rfl, ?_⟩) hHeld ?_
    rotate_left
    · intro w hSw
      try dsimp only at hSw
      go_simp
      try with_reducible rfl
    try simp only [Act.put, List.setIfInBounds_toArray, List.set_cons_zero, List.set_cons_succ]
    refine wpAnyH_take (i := 1) (oi := { dst := some 159, op := Op.load 23 (Operand.tmp 5), type := 23, pos := "law.go:92", after := #[], guard := none }) (v := ?_) rfl (by kernel_rfl) (by kernel_rfl) (by kernel_rfl) (fun _ _ _ h => h) (Or.inl ⟨by rfl, ?_⟩) hHeld ?_
    rotate_left
    · intro w hSw
      try dsimp only at hSw
      go_simp
      try with_reducible rfl
    try simp only [Act.put, List.setIfInBounds_toArray, List.set_cons_zero, List.set_cons_succ]
    refine wpAnyH_take (i := 3) (oi := { dst := some 161, op := Op.load 34 (Operand.tmp 16), type := 34, pos := "law.go:92", after := #[], guard := none }) (v := ?_) rfl (by kernel_rfl) (by kernel_rfl) (by kernel_rfl) (fun _ _ _ h => h) (Or.inl ⟨by rfl, ?_⟩) hHeld ?_
    rotate_left
    · intro w hSw
      try dsimp only at hSw
      go_simp
      try with_reducible rfl
    try simp only [Act.put, List.setIfInBounds_toArray, List.set_cons_zero, List.set_cons_succ]
    refine wpAnyH_take (i := 4) (oi := { dst := some 162, op := Op.load 23 (Operand.tmp 5), type := 23, pos := "law.go:92", after := #[], guard := none }) (v := ?_) rfl (by kernel_rfl) (by kernel_rfl) (by kernel_rfl) (fun _ _ _ h => h) (Or.inl ⟨by rfl, ?_⟩) hHeld ?_
    rotate_left
    · intro w hSw
      try dsimp only at hSw
      go_simp
      try with_reducible rfl
    try simp only [Act.put, List.setIfInBounds_toArray, List.set_cons_zero, List.set_cons_succ]
    refine wpAnyH_take (i := 6) (oi := { dst := some 164, op := Op.load 34 (Operand.tmp 17), type := 34, pos := "law.go:92", after := #[], guard := none }) (v := ?_) rfl (by kernel_rfl) (by kernel_rfl) (by kernel_rfl) (fun _ _ _ h => h) (Or.inl ⟨by rfl, ?_⟩) hHeld ?_
    rotate_left
    · intro w hSw
      try dsimp only at hSw
      go_simp
      try with_reducible rfl
    try simp only [Act.put, List.setIfInBounds_toArray, List.set_cons_zero, List.set_cons_succ]
    refine wpAnyH_take (i := 7) (oi := { dst := some 165, op := Op.load 23 (Operand.tmp 5), type := 23, pos := "law.go:92", after := #[], guard := none }) (v := ?_) rfl (by kernel_rfl) (by kernel_rfl) (by kernel_rfl) (fun _ _ _ h => h) (Or.inl ⟨by rfl, ?_⟩) hHeld ?_
    rotate_left
    · intro w hSw
      try dsimp only at hSw
      go_simp
      try with_reducible rfl
    try simp only [Act.put, List.setIfInBounds_toArray, List.set_cons_zero, List.set_cons_succ]
    refine wpAnyH_ready (rs := [2]) (by kernel_rfl) (by simp) ?_
    refine AllReadyH.cons (o := { dst := some 160, op := Op.call { callee := Callee.value (Operand.func 27), args := #[Operand.tmp 158, Operand.tmp 159], argTypes := #[34, 23] }, type := 4, pos := "law.go:92", after := #[{ on := 0, ground := Ground.data }, { on := 1, ground := Ground.data }], guard := none }) rfl (fun K hK => ?_) (AllReadyH.nil)
    go_simp
    refine (nA _ hHeld.2.1).mono ?_; rintro e w_51 ⟨rfl, hb_51⟩
    try go_wp2_with fail
    refine hK.out _ _ (cm_on hHeld hb_51) (fun hHeld2 => ?_)
    clear hK K hHeld; have hHeld := hHeld2; clear hHeld2
    try simp only [Act.put, List.setIfInBounds_toArray, List.set_cons_zero, List.set_cons_succ]
    refine wpAnyH_ready (rs := [5]) (by kernel_rfl) (by simp) ?_
    refine AllReadyH.cons (o := { dst := some 163, op := Op.call { callee := Callee.value (Operand.func 27), args := #[Operand.tmp 161, Operand.tmp 162], argTypes := #[34, 23] }, type := 4, pos := "law.go:92", after := #[{ on := 3, ground := Ground.data }, { on := 4, ground := Ground.data }, { on := 2, ground := Ground.chain }], guard := none }) rfl (fun K hK => ?_) (AllReadyH.nil)
    go_simp
    refine (nB _ hHeld.2.2.1).mono ?_; rintro e w_52 ⟨rfl, hb_52⟩
    try go_wp2_with fail
    refine hK.out _ _ (cm_on hHeld hb_52) (fun hHeld2 => ?_)
    clear hK K hHeld; have hHeld := hHeld2; clear hHeld2
    try simp only [Act.put, List.setIfInBounds_toArray, List.set_cons_zero, List.set_cons_succ]
    refine wpAnyH_ready (rs := [8]) (by kernel_rfl) (by simp) ?_
    refine AllReadyH.cons (o := { dst := some 166, op := Op.call { callee := Callee.value (Operand.func 27), args := #[Operand.tmp 164, Operand.tmp 165], argTypes := #[34, 23] }, type := 4, pos := "law.go:92", after := #[{ on := 6, ground := Ground.data }, { on := 7, ground := Ground.data }, { on := 5, ground := Ground.chain }], guard := none }) rfl (fun K hK => ?_) (AllReadyH.nil)
    go_simp
    refine (nC _ hHeld.2.2.2.1).mono ?_; rintro e w_53 ⟨rfl, hb_53⟩
    try go_wp2_with fail
    refine hK.out _ _ (cm_on hHeld hb_53) (fun hHeld2 => ?_)
    clear hK K hHeld; have hHeld := hHeld2; clear hHeld2
    try simp only [Act.put, List.setIfInBounds_toArray, List.set_cons_zero, List.set_cons_succ]
    refine wpAnyH_take (i := 9) (oi := { dst := some 167, op := Op.binOp BinOp.neq 4 (Operand.tmp 163) (Operand.tmp 166) 4, type := 4, pos := "law.go:92", after := #[{ on := 5, ground := Ground.data }, { on := 8, ground := Ground.data }], guard := none }) (v := ?_) rfl (by kernel_rfl) (by kernel_rfl) (by kernel_rfl) (fun _ _ _ h => h) (Or.inl ⟨by rfl, ?_⟩) hHeld ?_
    rotate_left
    · intro w hSw
      try dsimp only at hSw
      go_simp
      try with_reducible rfl
    try simp only [Act.put, List.setIfInBounds_toArray, List.set_cons_zero, List.set_cons_succ]
    refine wpAnyH_take (i := 10) (oi := { dst := some 168, op := Op.binOp BinOp.eql 4 (Operand.tmp 160) (Operand.tmp 167) 4, type := 4, pos := "law.go:92", after := #[{ on := 2, ground := Ground.data }, { on := 9, ground := Ground.data }], guard := none }) (v := ?_) rfl (by kernel_rfl) (by kernel_rfl) (by kernel_rfl) (fun _ _ _ h => h) (Or.inl ⟨by rfl, ?_⟩) hHeld ?_
    rotate_left
    · intro w hSw
      try dsimp only at hSw
      go_simp
      try with_reducible rfl
    try simp only [Act.put, List.setIfInBounds_toArray, List.set_cons_zero, List.set_cons_succ]
    refine wpAnyH_take (i := 11) (oi := { dst := some 8, op := Op.assign (Operand.tmp 168), type := 4, pos := "law.go:92", after := #[{ on := 10, ground := Ground.data }, { on := 8, ground := Ground.chain }, { on := 0, ground := Ground.phase }, { on := 1, ground := Ground.phase }, { on := 2, ground := Ground.phase }, { on := 3, ground := Ground.phase }, { on := 4, ground := Ground.phase }, { on := 5, ground := Ground.phase }, { on := 6, ground := Ground.phase }, { on := 7, ground := Ground.phase }, { on := 8, ground := Ground.phase }, { on := 9, ground := Ground.phase }, { on := 10, ground := Ground.phase }], guard := none }) (v := ?_) rfl (by kernel_rfl) (by kernel_rfl) (by kernel_rfl) (fun _ _ _ h => h) (Or.inl ⟨by rfl, ?_⟩) hHeld ?_
    rotate_left
    · intro w hSw
      try dsimp only at hSw
      go_simp
      try with_reducible rfl
    try simp only [Act.put, List.setIfInBounds_toArray, List.set_cons_zero, List.set_cons_succ]
    refine wpAnyH_done (by kernel_rfl) ?_ _
    have hbel := hHeld.1
    clear hHeld ZZ
    go_wp2_with fail
    go_ret
    exact ⟨rfl, hbel⟩
end Go.Proofs.Ytoiccljmdplfgaa.Ar
