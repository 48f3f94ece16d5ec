/-
  AreaSame, WALKED.
-/
import Derived.Test.YtoiccljmdplfgaaAr8
namespace Go.Proofs.Ytoiccljmdplfgaa.Ar
open Go.ChangeShapes Go.WideShapes Go.ChangeAt Go.RowKit Go.Shelf
open Go.Proofs.Ytoiccljmdplfgaa
open Go.Proofs.Ytoiccljmdplfgaa.Wd
open Go.Proofs.Ytoiccljmdplfgaa.Pl
open Go.Proofs.Ytoiccljmdplfgaa.Nv
open Go.Proofs.Ytoiccljmdplfgaa.Ld
set_option linter.unusedVariables false
set_option linter.unusedSimpArgs false
attribute [local go_sem ↓] Go.wp_at_zero Go.wp_at_succ
attribute [local go_sem ↓] ldA_sem ldP_sem
attribute [local go_sem] ldSem_run
theorem rev_step {l : List P2} {n j kk : Nat} (hl : l.length = n) (hj : j < n) (hK : n - 1 - j = kk) {q : P2} (hq : pt_ l kk = q) : l.reverse.take (j + 1) = l.reverse.take j ++ [q] := by
  rw [← hq]
  rw [List.take_succ_eq_append_getElem (by rw [List.length_reverse]; omega)]
  congr 2
  rw [List.getElem_reverse, pt_eq]
  congr 1; omega
theorem ld_pt2 {w : World} {B : Nat} {r : Addr} {x : P2} (h : Row w B r x.A) : ldT 23 (.pointer (some r)) w = some x.A := by
  refine ldT_of ?_
  have := run_loadVar_at (P := Try.prog) w B r 23 x.A _ h Try.underlying23 rfl (by kernel_rfl)
  simp only [Instr.loadAt, Instr.sureAddr, Sem.run_bind, Sem.run_pure, Result.andThen_ok, this]
theorem ld_at {w : World} {B n kk : Nat} {ad : Addr} {l : List P2} (h : Pts w B (some ad) n l) (hK : kk < n) : ldT 23 (.pointer (some (ad.add (kk * 2)))) w = some (pt_ l kk).A := by
  obtain ⟨ad', e, hr⟩ := h.row (k := kk) hK (by rw [h.1]; exact hK)
  obtain rfl := Option.some.inj e
  rw [pt_eq] at hr
  exact ld_pt2 hr
theorem s12_mk {w W : World} {n c kk : Nat} {z : ByteArray} {ad : Addr} {l : List P2} {q : P2} (hq : pt_ l kk = q) (hR : Pts w w.heap.size (some ad) n l) (hK : kk < n) (iv : BI w W) (hx : Blk W w.heap.size 34 (arA z (some ad) n c)) :
    W.cell? ⟨w.heap.size, 1, none⟩ = some (.slice (some ad) n c) ∧ ldT 23 (.pointer (some (ad.add (kk * 2)))) W = some q.A := ⟨hx.cell 1, by rw [← hq]; exact ld_at (hR.below iv.b) hK⟩
theorem s17_mk {w W : World} {n c i : Nat} {z : ByteArray} {ad : Addr} {l : List P2} {q : P2} (hq : pt_ l i = q) (hi : i < n) (iv : BI w W) (hx : Blk W w.heap.size 34 (arA z (some ad) n c)) (hr : Pts W W.heap.size (some ad) n l) :
    BI w W ∧ Blk W w.heap.size 34 (arA z (some ad) n c) ∧ Pts W W.heap.size (some ad) n l ∧ W.cell? ⟨w.heap.size, 1, none⟩ = some (.slice (some ad) n c) ∧ ldT 34 (.pointer (some ⟨w.heap.size, 0, none⟩)) W = some (arA z (some ad) n c) ∧ ldT 23 (.pointer (some (ad.add (i * 2)))) W = some q.A := ⟨iv, hx, hr, hx.cell 1, ldT_of (ld_seg hx Try.underlying34 rfl (by kernel_rfl) (by kernel_rfl)), by rw [← hq]; exact ld_at hr hi⟩
theorem s17_on {w W W2 : World} {n c i : Nat} {z : ByteArray} {ad : Addr} {l : List P2} {q : P2} (hq : pt_ l i = q) (hi : i < n) (h : BI w W ∧ Blk W w.heap.size 34 (arA z (some ad) n c) ∧ Pts W W.heap.size (some ad) n l ∧ W.cell? ⟨w.heap.size, 1, none⟩ = some (.slice (some ad) n c) ∧ ldT 34 (.pointer (some ⟨w.heap.size, 0, none⟩)) W = some (arA z (some ad) n c) ∧ ldT 23 (.pointer (some (ad.add (i * 2)))) W = some q.A) (hbx : Below W.heap.size W W2) :
    BI w W2 ∧ Blk W2 w.heap.size 34 (arA z (some ad) n c) ∧ Pts W2 W2.heap.size (some ad) n l ∧ W2.cell? ⟨w.heap.size, 1, none⟩ = some (.slice (some ad) n c) ∧ ldT 34 (.pointer (some ⟨w.heap.size, 0, none⟩)) W2 = some (arA z (some ad) n c) ∧ ldT 23 (.pointer (some (ad.add (i * 2)))) W2 = some q.A := by
  obtain ⟨iv, hx, hr, _⟩ := h
  exact s17_mk hq hi (iv.call hbx) (hx.below hbx hx.lt) (pts_ca hr hbx)
theorem own_setCell {w : World} {base : Nat} {e : TypeId} {size : Nat} {v : Value} {n : Nat} {xs : List Value} (h : w.ownsRow base e size v n xs) (p : Addr) (u : Value) (hne : v.ownBlock ≠ some p.block) : (w.setCell p u).ownsRow base e size v n xs := by
  refine ⟨h.1, ?_⟩
  rcases h.2 with h' | ⟨b, cap, cur, h1, h2, h3, h4⟩
  · exact .inl h'
  · refine .inr ⟨b, cap, cur, h1, h2, ?_, h4⟩
    have hb : b ≠ p.block := fun e => hne (by rw [h1, e]; rfl)
    exact (Below.heap_setCell w p u b hb).trans h3
theorem own_nil (w : World) (base : Nat) : w.ownsRow base 23 2 (.slice none 0 0) 0 (flatP []) := ⟨rfl, .inl ⟨rfl, rfl⟩⟩
set_option maxRecDepth 100000 in
set_option maxHeartbeats 12800000 in
attribute [-go_sem] run_slice_l run_slice_h run_slice_lh run_slice_any in
theorem same_early (z : ByteArray) (A : Option Addr) (n c : Nat) (l : List P2) (p : P2) (t : Int) (w : World) (hz : z.size ≤ maxLen) (hR : Pts w w.heap.size A n l) (hm : n ≤ maxLen) (hnc : n ≤ c) (ht : 0 ≤ t ∧ t ≤ 255) (hbad : smV [⟨z, A, n, c, l⟩] = false ∨ (smV [⟨z, A, n, c, l⟩] = true ∧ arOk z l = false) ∨ (smV [⟨z, A, n, c, l⟩] = true ∧ arOk z l = true ∧ p.ok = false)) :
    Calls Try.prog 5 #[arV z A n c, p.V, .int .u8 t] w fun e w' => e = .returned (.bool true) ∧ Below w.heap.size w w' := by
  have i1 := ((BI.start w).alloc (.cells (arA z A n c) 34)).alloc (.cells p.A 23)
  have x1 := (Blk.new w 34 (arA z A n c)).alloc (.cells p.A 23)
  have y1 := blk_at (w.alloc (.cells (arA z A n c) 34)) 23 p.A (sz1 _ _ rfl)
  have hsm := fun W (i : BI w W) => one_ar (Blk.new W 34 (arA z A n c)) (pts_al (Pts.more (hR.below i.b) i.b.size) (.cells (arA z A n c) 34)) hz hm
  have hck := fun W (i : BI w W) => acheck_any z A n c w.heap.size l W hz (hR.below i.b) i.b.size hm
  have hpc := fun W => check_any p W
  rcases hbad with h1 | ⟨h1, h2⟩ | ⟨h1, h2, h3⟩
  · rw [h1] at hsm
    simp only [Bool.false_eq_true, if_false] at hsm
    clear h1
    go_enter Try.func5, Try.ntmps5
    go_wp2_with fail
    refine (lives44_any _).mono ?_; rintro e w2 ⟨rfl, hb2⟩
    have i2 := i1.call hb2
    have x2 := x1.below hb2 x1.lt
    have y2 := y1.below hb2 y1.lt
    clear i1 x1 y1 hb2
    go_wp2_with (first | refine wpList_row_g rfl 34 _ rfl _ rfl _ _ _ _ x2 Try.underlying34 rfl (by kernel_rfl) ?_)
    refine (hsm _ i2).mono ?_; rintro e w3 ⟨rfl, hb3⟩
    have i3 := (i2.alloc (.cells (arA z A n c) 34)).call hb3
    have x3 := (x2.alloc (.cells (arA z A n c) 34)).below hb3 (x2.alloc (.cells (arA z A n c) 34)).lt
    have y3 := (y2.alloc (.cells (arA z A n c) 34)).below hb3 (y2.alloc (.cells (arA z A n c) 34)).lt
    clear i2 x2 y2 hb3
    go_wp2_with fail
    go_ret
    exact ⟨rfl, i3⟩
  · rw [h1] at hsm
    simp only [if_true] at hsm
    rw [arE_no h2] at hck
    clear h1 h2
    go_enter Try.func5, Try.ntmps5
    go_wp2_with fail
    refine (lives44_any _).mono ?_; rintro e w2 ⟨rfl, hb2⟩
    have i2 := i1.call hb2
    have x2 := x1.below hb2 x1.lt
    have y2 := y1.below hb2 y1.lt
    clear i1 x1 y1 hb2
    go_wp2_with (first | refine wpList_row_g rfl 34 _ rfl _ rfl _ _ _ _ x2 Try.underlying34 rfl (by kernel_rfl) ?_)
    refine (hsm _ i2).mono ?_; rintro e w3 ⟨rfl, hb3⟩
    have i3 := (i2.alloc (.cells (arA z A n c) 34)).call hb3
    have x3 := (x2.alloc (.cells (arA z A n c) 34)).below hb3 (x2.alloc (.cells (arA z A n c) 34)).lt
    have y3 := (y2.alloc (.cells (arA z A n c) 34)).below hb3 (y2.alloc (.cells (arA z A n c) 34)).lt
    clear i2 x2 y2 hb3
    go_wp2_with (first | refine wpList_row_g rfl 34 _ rfl _ rfl _ _ _ _ x3 Try.underlying34 rfl (by kernel_rfl) ?_)
    refine (hck _ i3).mono ?_; rintro e w4 ⟨rfl, hb4⟩
    have i4 := i3.call hb4
    have x4 := x3.below hb4 x3.lt
    have y4 := y3.below hb4 y3.lt
    clear i3 x3 y3 hb4
    go_wp2_with fail
    go_ret
    exact ⟨rfl, i4⟩
  · rw [h1] at hsm
    simp only [if_true] at hsm
    rw [arE_yes h2] at hck
    have hv : (chkV p != 0) = true := by unfold chkV; rw [h3]; rfl
    clear h1 h2 h3
    go_enter Try.func5, Try.ntmps5
    go_wp2_with fail
    refine (lives44_any _).mono ?_; rintro e w2 ⟨rfl, hb2⟩
    have i2 := i1.call hb2
    have x2 := x1.below hb2 x1.lt
    have y2 := y1.below hb2 y1.lt
    clear i1 x1 y1 hb2
    go_wp2_with (first | refine wpList_row_g rfl 34 _ rfl _ rfl _ _ _ _ x2 Try.underlying34 rfl (by kernel_rfl) ?_)
    refine (hsm _ i2).mono ?_; rintro e w3 ⟨rfl, hb3⟩
    have i3 := (i2.alloc (.cells (arA z A n c) 34)).call hb3
    have x3 := (x2.alloc (.cells (arA z A n c) 34)).below hb3 (x2.alloc (.cells (arA z A n c) 34)).lt
    have y3 := (y2.alloc (.cells (arA z A n c) 34)).below hb3 (y2.alloc (.cells (arA z A n c) 34)).lt
    clear i2 x2 y2 hb3
    go_wp2_with (first | refine wpList_row_g rfl 34 _ rfl _ rfl _ _ _ _ x3 Try.underlying34 rfl (by kernel_rfl) ?_)
    refine (hck _ i3).mono ?_; rintro e w4 ⟨rfl, hb4⟩
    have i4 := i3.call hb4
    have x4 := x3.below hb4 x3.lt
    have y4 := y3.below hb4 y3.lt
    clear i3 x3 y3 hb4
    go_wp2_with (first | refine wpList_row_g rfl 23 _ rfl _ rfl _ _ _ _ y4 Try.underlying23 rfl (by kernel_rfl) ?_)
    refine (hpc _).mono ?_; rintro e w5 ⟨rfl, hb5⟩
    have i5 := i4.call hb5
    have x5 := x4.below hb5 x4.lt
    have y5 := y4.below hb5 y4.lt
    clear i4 x4 y4 hb5
    go_wp2_with fail
    go_ret
    exact ⟨rfl, i5⟩
set_option maxRecDepth 100000 in
set_option maxHeartbeats 12800000 in
attribute [-go_sem] run_slice_l run_slice_h run_slice_lh run_slice_any in
theorem same_main (z : ByteArray) (A : Option Addr) (n c : Nat) (l : List P2) (p : P2) (t : Int) (w : World) (hz : z.size ≤ maxLen) (hR : Pts w w.heap.size A n l) (hm : n ≤ maxLen) (hnc : n ≤ c) (ht : 0 ≤ t ∧ t ≤ 255) (h1 : smV [⟨z, A, n, c, l⟩] = true) (h2 : arOk z l = true) (h3 : p.ok = true) :
    Calls Try.prog 5 #[arV z A n c, p.V, .int .u8 t] w fun e w' => e = .returned (.bool true) ∧ Below w.heap.size w w' := by
  have i1 := ((BI.start w).alloc (.cells (arA z A n c) 34)).alloc (.cells p.A 23)
  have x1 := (Blk.new w 34 (arA z A n c)).alloc (.cells p.A 23)
  have y1 := blk_at (w.alloc (.cells (arA z A n c) 34)) 23 p.A (sz1 _ _ rfl)
  have hsm := fun W (i : BI w W) => one_ar (Blk.new W 34 (arA z A n c)) (pts_al (Pts.more (hR.below i.b) i.b.size) (.cells (arA z A n c) 34)) hz hm
  have hck := fun W (i : BI w W) => acheck_any z A n c w.heap.size l W hz (hR.below i.b) i.b.size hm
  have hpc := fun W => check_any p W
  rw [h1] at hsm
  simp only [if_true] at hsm
  rw [arE_yes h2] at hck
  have hv : (chkV p != 0) = false := by unfold chkV; rw [h3]; rfl
  have hn3 : 3 ≤ n ∧ n ≤ 40 := by
    have q1 := (ar_iff.1 h2).2.1
    have q2 := hR.1
    have q3 : n ≤ 40 := by
      unfold smV at h1
      simp at h1
      exact h1.1
    omega
  obtain ⟨ad, rfl, -⟩ := hR.row (k := 0) (by omega) (by rw [hR.1]; omega)
  have hrt : rtB z l p = true := by unfold rtB; rw [h2, h3]; rfl
  have hll := hR.1
  obtain ⟨i, hi0⟩ : ∃ i : Nat, t.tmod (n : Int) = (i : Int) := ⟨(t % n).toNat, by rw [Int.tmod_eq_emod_of_nonneg ht.1]; have := Int.emod_nonneg t (show (n : Int) ≠ 0 by omega); omega⟩
  have hi1 : i < n := by rw [Int.tmod_eq_emod_of_nonneg ht.1] at hi0; have := Int.emod_lt_of_pos t (show 0 < (n : Int) by omega); omega
  obtain ⟨q1, q2, q3, q4⟩ := same_rot (i := i) h2 (by omega) p
  obtain ⟨s1, s2, s3, s4⟩ := same_rev h2 p
  obtain ⟨k1, k2, k3⟩ := corner_on (i := i) h2 (by omega)
  have rB : rtB z (l.drop i ++ l.take i) p = true := by unfold rtB; rw [q1, h3]; rfl
  have rC : rtB z l.reverse p = true := by unfold rtB; rw [s1, h3]; rfl
  have HSZ := Lib.hid (sz_ok h2)
  have HEI := Lib.hid (show edB l p = true → inB l p = true from fun h => by unfold inB; rw [h]; rfl)
  obtain ⟨i0i, hi0', hz0, hz1, hz2⟩ := info_parts pt_info
  have HI := Lib.hid hi0'
  have HQ := Lib.hid (And.intro q2 (And.intro q3 q4))
  have HS := Lib.hid (And.intro s2 (And.intro s3 s4))
  have HK := Lib.hid (And.intro k1 (And.intro k2 k3))
  have HRT := Lib.hid (And.intro hrt (And.intro rB rC))
  have HI0 := Lib.hid hi0
  clear h1 h2 h3 hi0' q1 q2 q3 q4 s1 s2 s3 s4 k1 k2 k3 rB rC hrt hi0
  go_enter Try.func5, Try.ntmps5
  go_wp2_with fail
  refine (lives44_any _).mono ?_; rintro e w2 ⟨rfl, hb2⟩
  have i2 := i1.call hb2
  have x2 := x1.below hb2 x1.lt
  have y2 := y1.below hb2 y1.lt
  clear i1 x1 y1 hb2
  go_wp2_with (first | refine wpList_row_g rfl 34 _ rfl _ rfl _ _ _ _ x2 Try.underlying34 rfl (by kernel_rfl) ?_)
  refine (hsm _ i2).mono ?_; rintro e w3 ⟨rfl, hb3⟩
  have i3 := (i2.alloc (.cells (arA z (some ad) n c) 34)).call hb3
  have x3 := (x2.alloc (.cells (arA z (some ad) n c) 34)).below hb3 (x2.alloc (.cells (arA z (some ad) n c) 34)).lt
  have y3 := (y2.alloc (.cells (arA z (some ad) n c) 34)).below hb3 (y2.alloc (.cells (arA z (some ad) n c) 34)).lt
  clear i2 x2 y2 hb3
  go_wp2_with (first | refine wpList_row_g rfl 34 _ rfl _ rfl _ _ _ _ x3 Try.underlying34 rfl (by kernel_rfl) ?_)
  refine (hck _ i3).mono ?_; rintro e w4 ⟨rfl, hb4⟩
  have i4 := i3.call hb4
  have x4 := x3.below hb4 x3.lt
  have y4 := y3.below hb4 y3.lt
  clear i3 x3 y3 hb4
  go_wp2_with (first | refine wpList_row_g rfl 23 _ rfl _ rfl _ _ _ _ y4 Try.underlying23 rfl (by kernel_rfl) ?_)
  refine (hpc _).mono ?_; rintro e w5 ⟨rfl, hb5⟩
  have i5 := i4.call hb5
  have x5 := x4.below hb5 x4.lt
  have y5 := y4.below hb5 y4.lt
  clear i4 x4 y4 hb5
  have d1 : w5.cell? ⟨w.heap.size, 1, none⟩ = some (.slice (some ad) n c) := x5.cell 1
  clear hsm hck hpc
  have hi0 := HI0.out
  have ht1 : IntKind.i64.wrap t = t := by simp [IntKind.wrap, IntKind.bits, IntKind.signed]; omega
  have hi9 : IntKind.i64.wrap (i : Int) = (i : Int) := by simp [IntKind.wrap, IntKind.bits, IntKind.signed]; omega
  have hn0 : ¬ n = 0 := by omega
  have hn00 : ¬ (n : Int) = 0 := by omega
  have r7a := run_from ad n c i (by omega) (by omega)
  have r7b := run_to ad n c i (by omega)
  have hlB : (l.drop i ++ l.take i).length = n - i + i := by simp; omega
  go_upto_region 7 with fail
  obtain ⟨W0, rfl⟩ : ∃ W0 : World, W0 = w5 := ⟨_, rfl⟩
  have x0 : Blk W0.drew w.heap.size 34 (arA z (some ad) n c) := x5
  have y0 : Blk W0.drew (w.heap.size + 1) 23 p.A := y5
  have iv0 : BI w W0.drew := i5.drew
  have jv0 := BI.start W0.drew
  clear x5 y5 i5 d1 ht1 hi9 hn0 hn00 hi0
  go_cut [9] (fun v wx => ∃ (ub gb cb : Nat), v = .pointer (some ⟨ub, 0, none⟩) ∧ Blk wx w.heap.size 34 (arA z (some ad) n c) ∧ Blk wx (w.heap.size + 1) 23 p.A ∧ BI w wx ∧ Blk wx ub 34 (arA z (some ⟨gb, 0, none⟩) (n - i + i) cb) ∧ Pts wx wx.heap.size (some ⟨gb, 0, none⟩) (n - i + i) (l.drop i ++ l.take i))
  case first =>
    refine wp_region_held_drew (S := fun w' => w'.cell? ⟨w.heap.size, 0, none⟩ = some (.string z) ∧ w'.cell? ⟨w.heap.size, 1, none⟩ = some (.slice (some ad) n c)) (by kernel_rfl) (⟨x0.cell 0, x0.cell 1⟩) (fun hHeld => ?_)
    refine wpAnyH_take (i := 0) (oi := { dst := some 38, op := Op.fieldAddr 34 (Operand.tmp 3) 0, type := 0, pos := "law.go:51", after := #[], guard := none }) (v := ?_) rfl (by kernel_rfl) (by kernel_rfl) (by kernel_rfl) (fun _ _ _ h => h) (Or.inl ⟨by rfl, ?_⟩) hHeld ?_
    rotate_left
    · intro w hSw
      try dsimp only at hSw
      go_simp
      try with_reducible rfl
    try simp only [Act.put, List.setIfInBounds_toArray, List.set_cons_zero, List.set_cons_succ]
    refine wpAnyH_take (i := 1) (oi := { dst := some 39, op := Op.load 9 (Operand.tmp 38), type := 9, pos := "law.go:51", after := #[{ on := 0, ground := Ground.data }], guard := none }) (v := ?_) rfl (by kernel_rfl) (by kernel_rfl) (by kernel_rfl) (fun _ _ _ h => h) (Or.inl ⟨by rfl, ?_⟩) hHeld ?_
    rotate_left
    · intro w hSw
      try dsimp only at hSw
      go_simp
      try with_reducible rfl
    try simp only [Act.put, List.setIfInBounds_toArray, List.set_cons_zero, List.set_cons_succ]
    refine wpAnyH_take (i := 3) (oi := { dst := some 41, op := Op.fieldAddr 34 (Operand.tmp 3) 1, type := 0, pos := "law.go:51", after := #[], guard := none }) (v := ?_) rfl (by kernel_rfl) (by kernel_rfl) (by kernel_rfl) (fun _ _ _ h => h) (Or.inl ⟨by rfl, ?_⟩) hHeld ?_
    rotate_left
    · intro w hSw
      try dsimp only at hSw
      go_simp
      try with_reducible rfl
    try simp only [Act.put, List.setIfInBounds_toArray, List.set_cons_zero, List.set_cons_succ]
    refine wpAnyH_take (i := 4) (oi := { dst := some 42, op := Op.load 32 (Operand.tmp 41), type := 32, pos := "law.go:51", after := #[{ on := 3, ground := Ground.data }], guard := none }) (v := ?_) rfl (by kernel_rfl) (by kernel_rfl) (by kernel_rfl) (fun _ _ _ h => h) (Or.inl ⟨by rfl, ?_⟩) hHeld ?_
    rotate_left
    · intro w hSw
      try dsimp only at hSw
      go_simp
      try with_reducible rfl
    try simp only [Act.put, List.setIfInBounds_toArray, List.set_cons_zero, List.set_cons_succ]
    refine wpAnyH_take (i := 5) (oi := { dst := some 43, op := Op.move (Operand.tmp 8), type := 3, pos := "law.go:51", after := #[], guard := none }) (v := ?_) rfl (by kernel_rfl) (by kernel_rfl) (by kernel_rfl) (fun _ _ _ h => h) (Or.inl ⟨by rfl, ?_⟩) hHeld ?_
    rotate_left
    · intro w hSw
      try dsimp only at hSw
      go_simp
      try with_reducible rfl
    try simp only [Act.put, List.setIfInBounds_toArray, List.set_cons_zero, List.set_cons_succ]
    refine wpAnyH_take (i := 6) (oi := { dst := some 44, op := Op.slice 32 (Operand.tmp 42) (some (Operand.tmp 43)) none none, type := 32, pos := "law.go:51", after := #[{ on := 4, ground := Ground.data }, { on := 5, ground := Ground.data }], guard := none }) (v := ?_) rfl (by kernel_rfl) (by kernel_rfl) (by kernel_rfl) (fun _ _ _ h => h) (Or.inl ⟨by rfl, ?_⟩) hHeld ?_
    rotate_left
    · intro w hSw
      try dsimp only at hSw
      go_simp
      try with_reducible rfl
    try simp only [Act.put, List.setIfInBounds_toArray, List.set_cons_zero, List.set_cons_succ]
    refine wpAnyH_take (i := 8) (oi := { dst := some 46, op := Op.fieldAddr 34 (Operand.tmp 3) 1, type := 0, pos := "law.go:51", after := #[], guard := none }) (v := ?_) rfl (by kernel_rfl) (by kernel_rfl) (by kernel_rfl) (fun _ _ _ h => h) (Or.inl ⟨by rfl, ?_⟩) hHeld ?_
    rotate_left
    · intro w hSw
      try dsimp only at hSw
      go_simp
      try with_reducible rfl
    try simp only [Act.put, List.setIfInBounds_toArray, List.set_cons_zero, List.set_cons_succ]
    refine wpAnyH_take (i := 9) (oi := { dst := some 47, op := Op.load 32 (Operand.tmp 46), type := 32, pos := "law.go:51", after := #[{ on := 8, ground := Ground.data }], guard := none }) (v := ?_) rfl (by kernel_rfl) (by kernel_rfl) (by kernel_rfl) (fun _ _ _ h => h) (Or.inl ⟨by rfl, ?_⟩) hHeld ?_
    rotate_left
    · intro w hSw
      try dsimp only at hSw
      go_simp
      try with_reducible rfl
    try simp only [Act.put, List.setIfInBounds_toArray, List.set_cons_zero, List.set_cons_succ]
    refine wpAnyH_take (i := 10) (oi := { dst := some 48, op := Op.move (Operand.tmp 8), type := 3, pos := "law.go:51", after := #[], guard := none }) (v := ?_) rfl (by kernel_rfl) (by kernel_rfl) (by kernel_rfl) (fun _ _ _ h => h) (Or.inl ⟨by rfl, ?_⟩) hHeld ?_
    rotate_left
    · intro w hSw
      try dsimp only at hSw
      go_simp
      try with_reducible rfl
    try simp only [Act.put, List.setIfInBounds_toArray, List.set_cons_zero, List.set_cons_succ]
    refine wpAnyH_take (i := 11) (oi := { dst := some 49, op := Op.slice 32 (Operand.tmp 47) none (some (Operand.tmp 48)) none, type := 32, pos := "law.go:51", after := #[{ on := 9, ground := Ground.data }, { on := 10, ground := Ground.data }], guard := none }) (v := ?_) rfl (by kernel_rfl) (by kernel_rfl) (by kernel_rfl) (fun _ _ _ h => h) (Or.inl ⟨by rfl, ?_⟩) hHeld ?_
    rotate_left
    · intro w hSw
      try dsimp only at hSw
      go_simp
      try with_reducible rfl
    try simp only [Act.put, List.setIfInBounds_toArray, List.set_cons_zero, List.set_cons_succ]
    refine wpAnyH_ready (rs := [2, 14]) (by kernel_rfl) (by simp) ?_
    refine AllReadyH.cons (o := { dst := some 40, op := Op.buildSlice 32 0 #[], type := 32, pos := "law.go:51", after := #[], guard := none }) rfl (fun K hK => ?_) (AllReadyH.cons (o := { dst := some 9, op := Op.alloc 34, type := 0, pos := "law.go:51", after := #[], guard := none }) rfl (fun K hK => ?_) (AllReadyH.nil))
    · skip
      go_simp
      have own_1 := own_x (base := W0.drew.heap.size) (W0.drew) (Nat.le_refl W0.drew.heap.size)
      have iv_1 := iv0.alloc (.cells (#[] : Array Value) 23)
      have jv_1 := jv0.alloc (.cells (#[] : Array Value) 23)
      have x_1 := x0.alloc (.cells (#[] : Array Value) 23)
      have y_1 := y0.alloc (.cells (#[] : Array Value) 23)
      have sz_1 : W0.drew.heap.size ≤ ((W0.drew).alloc (.cells (#[] : Array Value) 23)).heap.size := by rw [sz1 _ _ rfl]; exact Nat.le_succ_of_le (Nat.le_refl W0.drew.heap.size)
      refine hK.out _ _ (⟨x_1.cell 0, x_1.cell 1⟩) (fun hHeld2 => ?_)
      clear hK K hHeld; have hHeld := hHeld2; clear hHeld2
      try simp only [Act.put, List.setIfInBounds_toArray, List.set_cons_zero, List.set_cons_succ]
      refine wpAnyH_ready (rs := [7, 14]) (by kernel_rfl) (by simp) ?_
      refine AllReadyH.cons (o := { dst := some 45, op := Op.call { callee := Callee.builtin Builtin.append, args := #[Operand.tmp 40, Operand.tmp 44], argTypes := #[32, 32] }, type := 32, pos := "law.go:51", after := #[{ on := 2, ground := Ground.data }, { on := 6, ground := Ground.data }], guard := none }) rfl (fun K hK => ?_) (AllReadyH.cons (o := { dst := some 9, op := Op.alloc 34, type := 0, pos := "law.go:51", after := #[], guard := none }) rfl (fun K hK => ?_) (AllReadyH.nil))
      · skip
        refine wp_append_any _ (.tmp 40) (.tmp 44) 32 rfl W0.drew.heap.size 23 i0i _ 2 16 Try.underlying32 HI.out hz0 hz1 hz2 rfl (by decide) _ (0) _ rfl own_1 _ _ (n - i) (c - i) (flatP (l.drop i)) rfl (pts_drop (hR.below iv_1.b) (by omega)).2 (flatP_one (l.drop i)) (by unfold maxLen; omega) (by omega) sz_1 ?_
        intro v_2 W_2 own_2 hg_2 hat_2
        have iv_2 : BI w W_2 := Below.grown iv_1.b hg_2 iv_1.b.size (fun g hg => Nat.le_trans iv0.b.size (own_lt9 own_1 g hg).1)
        have x_2 := x_1.grown hg_2 (fun e => by have q1 := (own_lt9 own_1 _ e.symm).1; have q2 := x0.lt; omega)
        have y_2 := y_1.grown hg_2 (fun e => by have q1 := (own_lt9 own_1 _ e.symm).1; have q2 := y0.lt; omega)
        have jv_2 : BI W0.drew W_2 := Below.grown jv_1.b hg_2 jv_1.b.size (fun g hg => (own_lt9 own_1 g hg).1)
        have sz_2 : W0.drew.heap.size ≤ W_2.heap.size := Nat.le_trans sz_1 hg_2.size
        rw [Nat.zero_add, List.nil_append] at own_2
        obtain ⟨g9, c9, e9, hc9⟩ := own_formg own_2 (by omega)
        subst e9
        refine hK.out _ _ (⟨x_2.cell 0, x_2.cell 1⟩) (fun hHeld2 => ?_)
        clear hK K hHeld; have hHeld := hHeld2; clear hHeld2
        try simp only [Act.put, List.setIfInBounds_toArray, List.set_cons_zero, List.set_cons_succ]
        refine wpAnyH_ready (rs := [12, 14]) (by kernel_rfl) (by simp) ?_
        refine AllReadyH.cons (o := { dst := some 50, op := Op.call { callee := Callee.builtin Builtin.append, args := #[Operand.tmp 45, Operand.tmp 49], argTypes := #[32, 32] }, type := 32, pos := "law.go:51", after := #[{ on := 7, ground := Ground.data }, { on := 11, ground := Ground.data }, { on := 7, ground := Ground.chain }], guard := none }) rfl (fun K hK => ?_) (AllReadyH.cons (o := { dst := some 9, op := Op.alloc 34, type := 0, pos := "law.go:51", after := #[], guard := none }) rfl (fun K hK => ?_) (AllReadyH.nil))
        · skip
          refine wp_append_any _ (.tmp 45) (.tmp 49) 32 rfl W0.drew.heap.size 23 i0i _ 2 16 Try.underlying32 HI.out hz0 hz1 hz2 rfl (by decide) _ ((n - i)) _ rfl own_2 _ _ i c (flatP (l.take i)) rfl (pts_take (hR.below iv_2.b) (by omega)).2 (flatP_one (l.take i)) (by unfold maxLen; omega) (by omega) sz_2 ?_
          intro v_3 W_3 own_3 hg_3 hat_3
          have iv_3 : BI w W_3 := Below.grown iv_2.b hg_3 iv_2.b.size (fun g hg => Nat.le_trans iv0.b.size (own_lt9 own_2 g hg).1)
          have x_3 := x_2.grown hg_3 (fun e => by have q1 := (own_lt9 own_2 _ e.symm).1; have q2 := x0.lt; omega)
          have y_3 := y_2.grown hg_3 (fun e => by have q1 := (own_lt9 own_2 _ e.symm).1; have q2 := y0.lt; omega)
          have jv_3 : BI W0.drew W_3 := Below.grown jv_2.b hg_3 jv_2.b.size (fun g hg => (own_lt9 own_2 g hg).1)
          have sz_3 : W0.drew.heap.size ≤ W_3.heap.size := Nat.le_trans sz_2 hg_3.size
          rw [← flatP_app] at own_3
          obtain ⟨g9, c9, e9, hc9⟩ := own_formg own_3 (by omega)
          subst e9
          refine hK.out _ _ (⟨x_3.cell 0, x_3.cell 1⟩) (fun hHeld2 => ?_)
          clear hK K hHeld; have hHeld := hHeld2; clear hHeld2
          try simp only [Act.put, List.setIfInBounds_toArray, List.set_cons_zero, List.set_cons_succ]
          refine wpAnyH_take (i := 13) (oi := { dst := some 51, op := Op.build 34 #[(0, Operand.tmp 39), (1, Operand.tmp 50)], type := 34, pos := "law.go:51", after := #[{ on := 1, ground := Ground.data }, { on := 12, ground := Ground.data }], guard := none }) (v := ?_) rfl (by kernel_rfl) (by kernel_rfl) (by kernel_rfl) (fun _ _ _ h => h) (Or.inl ⟨by rfl, ?_⟩) hHeld ?_
          rotate_left
          · intro w hSw
            try dsimp only at hSw
            go_simp
            try with_reducible rfl
          try simp only [Act.put, List.setIfInBounds_toArray, List.set_cons_zero, List.set_cons_succ]
          refine wpAnyH_ready (rs := [14]) (by kernel_rfl) (by simp) ?_
          refine AllReadyH.cons (o := { dst := some 9, op := Op.alloc 34, type := 0, pos := "law.go:51", after := #[], guard := none }) rfl (fun K hK => ?_) (AllReadyH.nil)
          go_simp
          have b_4 := Blk.new (W_3) 34 #[.string ByteArray.empty, .slice none 0 0]
          have iv_4 := iv_3.alloc (.cells #[.string ByteArray.empty, .slice none 0 0] 34)
          have jv_4 := jv_3.alloc (.cells #[.string ByteArray.empty, .slice none 0 0] 34)
          have x_4 := x_3.alloc (.cells #[.string ByteArray.empty, .slice none 0 0] 34)
          have y_4 := y_3.alloc (.cells #[.string ByteArray.empty, .slice none 0 0] 34)
          have sz_4 : W0.drew.heap.size ≤ ((W_3).alloc (.cells #[.string ByteArray.empty, .slice none 0 0] 34)).heap.size := by rw [sz1 _ _ rfl]; exact Nat.le_succ_of_le sz_3
          have own_4 := own_3.alloc (.cells #[.string ByteArray.empty, .slice none 0 0] 34)
          refine hK.out _ _ (⟨x_4.cell 0, x_4.cell 1⟩) (fun hHeld2 => ?_)
          clear hK K hHeld; have hHeld := hHeld2; clear hHeld2
          try simp only [Act.put, List.setIfInBounds_toArray, List.set_cons_zero, List.set_cons_succ]
          refine wpAnyH_ready (rs := [15]) (by kernel_rfl) (by simp) ?_
          refine AllReadyH.cons (o := { dst := none, op := Op.store 34 (Operand.tmp 9) (Operand.tmp 51), type := 0, pos := "law.go:51", after := #[{ on := 14, ground := Ground.data }, { on := 13, ground := Ground.data }, { on := 12, ground := Ground.chain }, { on := 0, ground := Ground.phase }, { on := 1, ground := Ground.phase }, { on := 2, ground := Ground.phase }, { on := 3, ground := Ground.phase }, { on := 4, ground := Ground.phase }, { on := 5, ground := Ground.phase }, { on := 6, ground := Ground.phase }, { on := 7, ground := Ground.phase }, { on := 8, ground := Ground.phase }, { on := 9, ground := Ground.phase }, { on := 10, ground := Ground.phase }, { on := 11, ground := Ground.phase }, { on := 12, ground := Ground.phase }, { on := 13, ground := Ground.phase }, { on := 14, ground := Ground.phase }], guard := none }) rfl (fun K hK => ?_) (AllReadyH.nil)
          refine wp_store_g 34 (.tmp 9) (.tmp 51) rfl rfl _ 0 (arA z (some ⟨g9, 0, none⟩) ((n - i) + i) c9) (arA z (some ⟨g9, 0, none⟩) ((n - i) + i) c9) rfl rfl _ _ b_4 (by show 0 + 2 ≤ 2; decide) (by kernel_rfl) (by kernel_rfl) (by kernel_rfl) ?_
          have x_5 := Blk.rowFar x_4 (Nat.ne_of_lt (Nat.lt_of_lt_of_le x0.lt (sz_3))) (arA z (some ⟨g9, 0, none⟩) ((n - i) + i) c9)
          have y_5 := Blk.rowFar y_4 (Nat.ne_of_lt (Nat.lt_of_lt_of_le y0.lt (sz_3))) (arA z (some ⟨g9, 0, none⟩) ((n - i) + i) c9)
          have iv_5 := bi_row iv_4 (Nat.le_trans iv0.b.size (sz_3)) (arA z (some ⟨g9, 0, none⟩) ((n - i) + i) c9)
          have jv_5 := bi_row jv_4 (sz_3) (arA z (some ⟨g9, 0, none⟩) ((n - i) + i) c9)
          have own_5 := own_setRow own_4 _ (arA z (some ⟨g9, 0, none⟩) ((n - i) + i) c9) (own_blk_ne own_4 b_4 (by decide))
          have b_5 := Blk.row b_4 (arA z (some ⟨g9, 0, none⟩) ((n - i) + i) c9)
          refine hK.out _ _ (⟨x_5.cell 0, x_5.cell 1⟩) (fun hHeld2 => ?_)
          clear hK K hHeld; have hHeld := hHeld2; clear hHeld2
          try simp only [Act.put, List.setIfInBounds_toArray, List.set_cons_zero, List.set_cons_succ]
          refine wpAnyH_done (by kernel_rfl) ?_ _
          clear hHeld
          have hrd9 := Reads.of_own own_5
          go_wp2_with fail
          go_meet
          exact ⟨_, g9, c9, rfl, x_5, y_5, iv_5, b_5, ⟨hlB, hrd9⟩⟩
        · skip
          go_simp
          have b_6 := Blk.new (W_2) 34 #[.string ByteArray.empty, .slice none 0 0]
          have iv_6 := iv_2.alloc (.cells #[.string ByteArray.empty, .slice none 0 0] 34)
          have jv_6 := jv_2.alloc (.cells #[.string ByteArray.empty, .slice none 0 0] 34)
          have x_6 := x_2.alloc (.cells #[.string ByteArray.empty, .slice none 0 0] 34)
          have y_6 := y_2.alloc (.cells #[.string ByteArray.empty, .slice none 0 0] 34)
          have sz_6 : W0.drew.heap.size ≤ ((W_2).alloc (.cells #[.string ByteArray.empty, .slice none 0 0] 34)).heap.size := by rw [sz1 _ _ rfl]; exact Nat.le_succ_of_le sz_2
          have own_6 := own_2.alloc (.cells #[.string ByteArray.empty, .slice none 0 0] 34)
          refine hK.out _ _ (⟨x_6.cell 0, x_6.cell 1⟩) (fun hHeld2 => ?_)
          clear hK K hHeld; have hHeld := hHeld2; clear hHeld2
          try simp only [Act.put, List.setIfInBounds_toArray, List.set_cons_zero, List.set_cons_succ]
          refine wpAnyH_ready (rs := [12]) (by kernel_rfl) (by simp) ?_
          refine AllReadyH.cons (o := { dst := some 50, op := Op.call { callee := Callee.builtin Builtin.append, args := #[Operand.tmp 45, Operand.tmp 49], argTypes := #[32, 32] }, type := 32, pos := "law.go:51", after := #[{ on := 7, ground := Ground.data }, { on := 11, ground := Ground.data }, { on := 7, ground := Ground.chain }], guard := none }) rfl (fun K hK => ?_) (AllReadyH.nil)
          refine wp_append_any _ (.tmp 45) (.tmp 49) 32 rfl W0.drew.heap.size 23 i0i _ 2 16 Try.underlying32 HI.out hz0 hz1 hz2 rfl (by decide) _ ((n - i)) _ rfl own_6 _ _ i c (flatP (l.take i)) rfl (pts_take (hR.below iv_6.b) (by omega)).2 (flatP_one (l.take i)) (by unfold maxLen; omega) (by omega) sz_6 ?_
          intro v_7 W_7 own_7 hg_7 hat_7
          have iv_7 : BI w W_7 := Below.grown iv_6.b hg_7 iv_6.b.size (fun g hg => Nat.le_trans iv0.b.size (own_lt9 own_6 g hg).1)
          have x_7 := x_6.grown hg_7 (fun e => by have q1 := (own_lt9 own_6 _ e.symm).1; have q2 := x0.lt; omega)
          have y_7 := y_6.grown hg_7 (fun e => by have q1 := (own_lt9 own_6 _ e.symm).1; have q2 := y0.lt; omega)
          have jv_7 : BI W0.drew W_7 := Below.grown jv_6.b hg_7 jv_6.b.size (fun g hg => (own_lt9 own_6 g hg).1)
          have b_7 := b_6.grown hg_7 (fun e => own_blk_ne own_6 b_6 (by decide) e.symm)
          have sz_7 : W0.drew.heap.size ≤ W_7.heap.size := Nat.le_trans sz_6 hg_7.size
          rw [← flatP_app] at own_7
          obtain ⟨g9, c9, e9, hc9⟩ := own_formg own_7 (by omega)
          subst e9
          refine hK.out _ _ (⟨x_7.cell 0, x_7.cell 1⟩) (fun hHeld2 => ?_)
          clear hK K hHeld; have hHeld := hHeld2; clear hHeld2
          try simp only [Act.put, List.setIfInBounds_toArray, List.set_cons_zero, List.set_cons_succ]
          refine wpAnyH_take (i := 13) (oi := { dst := some 51, op := Op.build 34 #[(0, Operand.tmp 39), (1, Operand.tmp 50)], type := 34, pos := "law.go:51", after := #[{ on := 1, ground := Ground.data }, { on := 12, ground := Ground.data }], guard := none }) (v := ?_) rfl (by kernel_rfl) (by kernel_rfl) (by kernel_rfl) (fun _ _ _ h => h) (Or.inl ⟨by rfl, ?_⟩) hHeld ?_
          rotate_left
          · intro w hSw
            try dsimp only at hSw
            go_simp
            try with_reducible rfl
          try simp only [Act.put, List.setIfInBounds_toArray, List.set_cons_zero, List.set_cons_succ]
          refine wpAnyH_ready (rs := [15]) (by kernel_rfl) (by simp) ?_
          refine AllReadyH.cons (o := { dst := none, op := Op.store 34 (Operand.tmp 9) (Operand.tmp 51), type := 0, pos := "law.go:51", after := #[{ on := 14, ground := Ground.data }, { on := 13, ground := Ground.data }, { on := 12, ground := Ground.chain }, { on := 0, ground := Ground.phase }, { on := 1, ground := Ground.phase }, { on := 2, ground := Ground.phase }, { on := 3, ground := Ground.phase }, { on := 4, ground := Ground.phase }, { on := 5, ground := Ground.phase }, { on := 6, ground := Ground.phase }, { on := 7, ground := Ground.phase }, { on := 8, ground := Ground.phase }, { on := 9, ground := Ground.phase }, { on := 10, ground := Ground.phase }, { on := 11, ground := Ground.phase }, { on := 12, ground := Ground.phase }, { on := 13, ground := Ground.phase }, { on := 14, ground := Ground.phase }], guard := none }) rfl (fun K hK => ?_) (AllReadyH.nil)
          refine wp_store_g 34 (.tmp 9) (.tmp 51) rfl rfl _ 0 (arA z (some ⟨g9, 0, none⟩) ((n - i) + i) c9) (arA z (some ⟨g9, 0, none⟩) ((n - i) + i) c9) rfl rfl _ _ b_7 (by show 0 + 2 ≤ 2; decide) (by kernel_rfl) (by kernel_rfl) (by kernel_rfl) ?_
          have x_8 := Blk.rowFar x_7 (Nat.ne_of_lt (Nat.lt_of_lt_of_le x0.lt (sz_2))) (arA z (some ⟨g9, 0, none⟩) ((n - i) + i) c9)
          have y_8 := Blk.rowFar y_7 (Nat.ne_of_lt (Nat.lt_of_lt_of_le y0.lt (sz_2))) (arA z (some ⟨g9, 0, none⟩) ((n - i) + i) c9)
          have iv_8 := bi_row iv_7 (Nat.le_trans iv0.b.size (sz_2)) (arA z (some ⟨g9, 0, none⟩) ((n - i) + i) c9)
          have jv_8 := bi_row jv_7 (sz_2) (arA z (some ⟨g9, 0, none⟩) ((n - i) + i) c9)
          have own_8 := own_setRow own_7 _ (arA z (some ⟨g9, 0, none⟩) ((n - i) + i) c9) (own_blk_ne own_7 b_7 (by decide))
          have b_8 := Blk.row b_7 (arA z (some ⟨g9, 0, none⟩) ((n - i) + i) c9)
          refine hK.out _ _ (⟨x_8.cell 0, x_8.cell 1⟩) (fun hHeld2 => ?_)
          clear hK K hHeld; have hHeld := hHeld2; clear hHeld2
          try simp only [Act.put, List.setIfInBounds_toArray, List.set_cons_zero, List.set_cons_succ]
          refine wpAnyH_done (by kernel_rfl) ?_ _
          clear hHeld
          have hrd9 := Reads.of_own own_8
          go_wp2_with fail
          go_meet
          exact ⟨_, g9, c9, rfl, x_8, y_8, iv_8, b_8, ⟨hlB, hrd9⟩⟩
      · skip
        go_simp
        have b_9 := blk_at ((W0.drew).alloc (.cells (#[] : Array Value) 23)) 34 #[.string ByteArray.empty, .slice none 0 0] (sz1 W0.drew _ rfl)
        have iv_9 := iv_1.alloc (.cells #[.string ByteArray.empty, .slice none 0 0] 34)
        have jv_9 := jv_1.alloc (.cells #[.string ByteArray.empty, .slice none 0 0] 34)
        have x_9 := x_1.alloc (.cells #[.string ByteArray.empty, .slice none 0 0] 34)
        have y_9 := y_1.alloc (.cells #[.string ByteArray.empty, .slice none 0 0] 34)
        have sz_9 : W0.drew.heap.size ≤ (((W0.drew).alloc (.cells (#[] : Array Value) 23)).alloc (.cells #[.string ByteArray.empty, .slice none 0 0] 34)).heap.size := by rw [sz1 _ _ rfl]; exact Nat.le_succ_of_le sz_1
        have own_9 := own_1.alloc (.cells #[.string ByteArray.empty, .slice none 0 0] 34)
        refine hK.out _ _ (⟨x_9.cell 0, x_9.cell 1⟩) (fun hHeld2 => ?_)
        clear hK K hHeld; have hHeld := hHeld2; clear hHeld2
        try simp only [Act.put, List.setIfInBounds_toArray, List.set_cons_zero, List.set_cons_succ]
        refine wpAnyH_ready (rs := [7]) (by kernel_rfl) (by simp) ?_
        refine AllReadyH.cons (o := { dst := some 45, op := Op.call { callee := Callee.builtin Builtin.append, args := #[Operand.tmp 40, Operand.tmp 44], argTypes := #[32, 32] }, type := 32, pos := "law.go:51", after := #[{ on := 2, ground := Ground.data }, { on := 6, ground := Ground.data }], guard := none }) rfl (fun K hK => ?_) (AllReadyH.nil)
        refine wp_append_any _ (.tmp 40) (.tmp 44) 32 rfl W0.drew.heap.size 23 i0i _ 2 16 Try.underlying32 HI.out hz0 hz1 hz2 rfl (by decide) _ (0) _ rfl own_9 _ _ (n - i) (c - i) (flatP (l.drop i)) rfl (pts_drop (hR.below iv_9.b) (by omega)).2 (flatP_one (l.drop i)) (by unfold maxLen; omega) (by omega) sz_9 ?_
        intro v_10 W_10 own_10 hg_10 hat_10
        have iv_10 : BI w W_10 := Below.grown iv_9.b hg_10 iv_9.b.size (fun g hg => Nat.le_trans iv0.b.size (own_lt9 own_9 g hg).1)
        have x_10 := x_9.grown hg_10 (fun e => by have q1 := (own_lt9 own_9 _ e.symm).1; have q2 := x0.lt; omega)
        have y_10 := y_9.grown hg_10 (fun e => by have q1 := (own_lt9 own_9 _ e.symm).1; have q2 := y0.lt; omega)
        have jv_10 : BI W0.drew W_10 := Below.grown jv_9.b hg_10 jv_9.b.size (fun g hg => (own_lt9 own_9 g hg).1)
        have b_10 := b_9.grown hg_10 (fun e => own_blk_ne own_9 b_9 (by decide) e.symm)
        have sz_10 : W0.drew.heap.size ≤ W_10.heap.size := Nat.le_trans sz_9 hg_10.size
        rw [Nat.zero_add, List.nil_append] at own_10
        obtain ⟨g9, c9, e9, hc9⟩ := own_formg own_10 (by omega)
        subst e9
        refine hK.out _ _ (⟨x_10.cell 0, x_10.cell 1⟩) (fun hHeld2 => ?_)
        clear hK K hHeld; have hHeld := hHeld2; clear hHeld2
        try simp only [Act.put, List.setIfInBounds_toArray, List.set_cons_zero, List.set_cons_succ]
        refine wpAnyH_ready (rs := [12]) (by kernel_rfl) (by simp) ?_
        refine AllReadyH.cons (o := { dst := some 50, op := Op.call { callee := Callee.builtin Builtin.append, args := #[Operand.tmp 45, Operand.tmp 49], argTypes := #[32, 32] }, type := 32, pos := "law.go:51", after := #[{ on := 7, ground := Ground.data }, { on := 11, ground := Ground.data }, { on := 7, ground := Ground.chain }], guard := none }) rfl (fun K hK => ?_) (AllReadyH.nil)
        refine wp_append_any _ (.tmp 45) (.tmp 49) 32 rfl W0.drew.heap.size 23 i0i _ 2 16 Try.underlying32 HI.out hz0 hz1 hz2 rfl (by decide) _ ((n - i)) _ rfl own_10 _ _ i c (flatP (l.take i)) rfl (pts_take (hR.below iv_10.b) (by omega)).2 (flatP_one (l.take i)) (by unfold maxLen; omega) (by omega) sz_10 ?_
        intro v_11 W_11 own_11 hg_11 hat_11
        have iv_11 : BI w W_11 := Below.grown iv_10.b hg_11 iv_10.b.size (fun g hg => Nat.le_trans iv0.b.size (own_lt9 own_10 g hg).1)
        have x_11 := x_10.grown hg_11 (fun e => by have q1 := (own_lt9 own_10 _ e.symm).1; have q2 := x0.lt; omega)
        have y_11 := y_10.grown hg_11 (fun e => by have q1 := (own_lt9 own_10 _ e.symm).1; have q2 := y0.lt; omega)
        have jv_11 : BI W0.drew W_11 := Below.grown jv_10.b hg_11 jv_10.b.size (fun g hg => (own_lt9 own_10 g hg).1)
        have b_11 := b_10.grown hg_11 (fun e => own_blk_ne own_10 b_10 (by decide) e.symm)
        have sz_11 : W0.drew.heap.size ≤ W_11.heap.size := Nat.le_trans sz_10 hg_11.size
        rw [← flatP_app] at own_11
        obtain ⟨g9, c9, e9, hc9⟩ := own_formg own_11 (by omega)
        subst e9
        refine hK.out _ _ (⟨x_11.cell 0, x_11.cell 1⟩) (fun hHeld2 => ?_)
        clear hK K hHeld; have hHeld := hHeld2; clear hHeld2
        try simp only [Act.put, List.setIfInBounds_toArray, List.set_cons_zero, List.set_cons_succ]
        refine wpAnyH_take (i := 13) (oi := { dst := some 51, op := Op.build 34 #[(0, Operand.tmp 39), (1, Operand.tmp 50)], type := 34, pos := "law.go:51", after := #[{ on := 1, ground := Ground.data }, { on := 12, ground := Ground.data }], guard := none }) (v := ?_) rfl (by kernel_rfl) (by kernel_rfl) (by kernel_rfl) (fun _ _ _ h => h) (Or.inl ⟨by rfl, ?_⟩) hHeld ?_
        rotate_left
        · intro w hSw
          try dsimp only at hSw
          go_simp
          try with_reducible rfl
        try simp only [Act.put, List.setIfInBounds_toArray, List.set_cons_zero, List.set_cons_succ]
        refine wpAnyH_ready (rs := [15]) (by kernel_rfl) (by simp) ?_
        refine AllReadyH.cons (o := { dst := none, op := Op.store 34 (Operand.tmp 9) (Operand.tmp 51), type := 0, pos := "law.go:51", after := #[{ on := 14, ground := Ground.data }, { on := 13, ground := Ground.data }, { on := 12, ground := Ground.chain }, { on := 0, ground := Ground.phase }, { on := 1, ground := Ground.phase }, { on := 2, ground := Ground.phase }, { on := 3, ground := Ground.phase }, { on := 4, ground := Ground.phase }, { on := 5, ground := Ground.phase }, { on := 6, ground := Ground.phase }, { on := 7, ground := Ground.phase }, { on := 8, ground := Ground.phase }, { on := 9, ground := Ground.phase }, { on := 10, ground := Ground.phase }, { on := 11, ground := Ground.phase }, { on := 12, ground := Ground.phase }, { on := 13, ground := Ground.phase }, { on := 14, ground := Ground.phase }], guard := none }) rfl (fun K hK => ?_) (AllReadyH.nil)
        refine wp_store_g 34 (.tmp 9) (.tmp 51) rfl rfl _ 0 (arA z (some ⟨g9, 0, none⟩) ((n - i) + i) c9) (arA z (some ⟨g9, 0, none⟩) ((n - i) + i) c9) rfl rfl _ _ b_11 (by show 0 + 2 ≤ 2; decide) (by kernel_rfl) (by kernel_rfl) (by kernel_rfl) ?_
        have x_12 := Blk.rowFar x_11 (Nat.ne_of_lt (Nat.lt_of_lt_of_le x0.lt (Nat.le_succ _))) (arA z (some ⟨g9, 0, none⟩) ((n - i) + i) c9)
        have y_12 := Blk.rowFar y_11 (Nat.ne_of_lt (Nat.lt_of_lt_of_le y0.lt (Nat.le_succ _))) (arA z (some ⟨g9, 0, none⟩) ((n - i) + i) c9)
        have iv_12 := bi_row iv_11 (Nat.le_trans iv0.b.size (Nat.le_succ _)) (arA z (some ⟨g9, 0, none⟩) ((n - i) + i) c9)
        have jv_12 := bi_row jv_11 (Nat.le_succ _) (arA z (some ⟨g9, 0, none⟩) ((n - i) + i) c9)
        have own_12 := own_setRow own_11 _ (arA z (some ⟨g9, 0, none⟩) ((n - i) + i) c9) (own_blk_ne own_11 b_11 (by decide))
        have b_12 := Blk.row b_11 (arA z (some ⟨g9, 0, none⟩) ((n - i) + i) c9)
        refine hK.out _ _ (⟨x_12.cell 0, x_12.cell 1⟩) (fun hHeld2 => ?_)
        clear hK K hHeld; have hHeld := hHeld2; clear hHeld2
        try simp only [Act.put, List.setIfInBounds_toArray, List.set_cons_zero, List.set_cons_succ]
        refine wpAnyH_done (by kernel_rfl) ?_ _
        clear hHeld
        have hrd9 := Reads.of_own own_12
        go_wp2_with fail
        go_meet
        exact ⟨_, g9, c9, rfl, x_12, y_12, iv_12, b_12, ⟨hlB, hrd9⟩⟩
    · skip
      go_simp
      have b_13 := Blk.new (W0.drew) 34 #[.string ByteArray.empty, .slice none 0 0]
      have iv_13 := iv0.alloc (.cells #[.string ByteArray.empty, .slice none 0 0] 34)
      have jv_13 := jv0.alloc (.cells #[.string ByteArray.empty, .slice none 0 0] 34)
      have x_13 := x0.alloc (.cells #[.string ByteArray.empty, .slice none 0 0] 34)
      have y_13 := y0.alloc (.cells #[.string ByteArray.empty, .slice none 0 0] 34)
      have sz_13 : W0.drew.heap.size ≤ ((W0.drew).alloc (.cells #[.string ByteArray.empty, .slice none 0 0] 34)).heap.size := by rw [sz1 _ _ rfl]; exact Nat.le_succ_of_le (Nat.le_refl W0.drew.heap.size)
      refine hK.out _ _ (⟨x_13.cell 0, x_13.cell 1⟩) (fun hHeld2 => ?_)
      clear hK K hHeld; have hHeld := hHeld2; clear hHeld2
      try simp only [Act.put, List.setIfInBounds_toArray, List.set_cons_zero, List.set_cons_succ]
      refine wpAnyH_ready (rs := [2]) (by kernel_rfl) (by simp) ?_
      refine AllReadyH.cons (o := { dst := some 40, op := Op.buildSlice 32 0 #[], type := 32, pos := "law.go:51", after := #[], guard := none }) rfl (fun K hK => ?_) (AllReadyH.nil)
      go_simp
      have own_14 := own_x (base := W0.drew.heap.size) ((W0.drew).alloc (.cells #[.string ByteArray.empty, .slice none 0 0] 34)) sz_13
      rw [sz1 W0.drew _ rfl] at own_14
      have iv_14 := iv_13.alloc (.cells (#[] : Array Value) 23)
      have jv_14 := jv_13.alloc (.cells (#[] : Array Value) 23)
      have x_14 := x_13.alloc (.cells (#[] : Array Value) 23)
      have y_14 := y_13.alloc (.cells (#[] : Array Value) 23)
      have sz_14 : W0.drew.heap.size ≤ (((W0.drew).alloc (.cells #[.string ByteArray.empty, .slice none 0 0] 34)).alloc (.cells (#[] : Array Value) 23)).heap.size := by rw [sz1 _ _ rfl]; exact Nat.le_succ_of_le sz_13
      have b_14 := b_13.alloc (.cells (#[] : Array Value) 23)
      refine hK.out _ _ (⟨x_14.cell 0, x_14.cell 1⟩) (fun hHeld2 => ?_)
      clear hK K hHeld; have hHeld := hHeld2; clear hHeld2
      try simp only [Act.put, List.setIfInBounds_toArray, List.set_cons_zero, List.set_cons_succ]
      refine wpAnyH_ready (rs := [7]) (by kernel_rfl) (by simp) ?_
      refine AllReadyH.cons (o := { dst := some 45, op := Op.call { callee := Callee.builtin Builtin.append, args := #[Operand.tmp 40, Operand.tmp 44], argTypes := #[32, 32] }, type := 32, pos := "law.go:51", after := #[{ on := 2, ground := Ground.data }, { on := 6, ground := Ground.data }], guard := none }) rfl (fun K hK => ?_) (AllReadyH.nil)
      refine wp_append_any _ (.tmp 40) (.tmp 44) 32 rfl W0.drew.heap.size 23 i0i _ 2 16 Try.underlying32 HI.out hz0 hz1 hz2 rfl (by decide) _ (0) _ rfl own_14 _ _ (n - i) (c - i) (flatP (l.drop i)) rfl (pts_drop (hR.below iv_14.b) (by omega)).2 (flatP_one (l.drop i)) (by unfold maxLen; omega) (by omega) sz_14 ?_
      intro v_15 W_15 own_15 hg_15 hat_15
      have iv_15 : BI w W_15 := Below.grown iv_14.b hg_15 iv_14.b.size (fun g hg => Nat.le_trans iv0.b.size (own_lt9 own_14 g hg).1)
      have x_15 := x_14.grown hg_15 (fun e => by have q1 := (own_lt9 own_14 _ e.symm).1; have q2 := x0.lt; omega)
      have y_15 := y_14.grown hg_15 (fun e => by have q1 := (own_lt9 own_14 _ e.symm).1; have q2 := y0.lt; omega)
      have jv_15 : BI W0.drew W_15 := Below.grown jv_14.b hg_15 jv_14.b.size (fun g hg => (own_lt9 own_14 g hg).1)
      have b_15 := b_14.grown hg_15 (fun e => own_blk_ne own_14 b_14 (by decide) e.symm)
      have sz_15 : W0.drew.heap.size ≤ W_15.heap.size := Nat.le_trans sz_14 hg_15.size
      rw [Nat.zero_add, List.nil_append] at own_15
      obtain ⟨g9, c9, e9, hc9⟩ := own_formg own_15 (by omega)
      subst e9
      refine hK.out _ _ (⟨x_15.cell 0, x_15.cell 1⟩) (fun hHeld2 => ?_)
      clear hK K hHeld; have hHeld := hHeld2; clear hHeld2
      try simp only [Act.put, List.setIfInBounds_toArray, List.set_cons_zero, List.set_cons_succ]
      refine wpAnyH_ready (rs := [12]) (by kernel_rfl) (by simp) ?_
      refine AllReadyH.cons (o := { dst := some 50, op := Op.call { callee := Callee.builtin Builtin.append, args := #[Operand.tmp 45, Operand.tmp 49], argTypes := #[32, 32] }, type := 32, pos := "law.go:51", after := #[{ on := 7, ground := Ground.data }, { on := 11, ground := Ground.data }, { on := 7, ground := Ground.chain }], guard := none }) rfl (fun K hK => ?_) (AllReadyH.nil)
      refine wp_append_any _ (.tmp 45) (.tmp 49) 32 rfl W0.drew.heap.size 23 i0i _ 2 16 Try.underlying32 HI.out hz0 hz1 hz2 rfl (by decide) _ ((n - i)) _ rfl own_15 _ _ i c (flatP (l.take i)) rfl (pts_take (hR.below iv_15.b) (by omega)).2 (flatP_one (l.take i)) (by unfold maxLen; omega) (by omega) sz_15 ?_
      intro v_16 W_16 own_16 hg_16 hat_16
      have iv_16 : BI w W_16 := Below.grown iv_15.b hg_16 iv_15.b.size (fun g hg => Nat.le_trans iv0.b.size (own_lt9 own_15 g hg).1)
      have x_16 := x_15.grown hg_16 (fun e => by have q1 := (own_lt9 own_15 _ e.symm).1; have q2 := x0.lt; omega)
      have y_16 := y_15.grown hg_16 (fun e => by have q1 := (own_lt9 own_15 _ e.symm).1; have q2 := y0.lt; omega)
      have jv_16 : BI W0.drew W_16 := Below.grown jv_15.b hg_16 jv_15.b.size (fun g hg => (own_lt9 own_15 g hg).1)
      have b_16 := b_15.grown hg_16 (fun e => own_blk_ne own_15 b_15 (by decide) e.symm)
      have sz_16 : W0.drew.heap.size ≤ W_16.heap.size := Nat.le_trans sz_15 hg_16.size
      rw [← flatP_app] at own_16
      obtain ⟨g9, c9, e9, hc9⟩ := own_formg own_16 (by omega)
      subst e9
      refine hK.out _ _ (⟨x_16.cell 0, x_16.cell 1⟩) (fun hHeld2 => ?_)
      clear hK K hHeld; have hHeld := hHeld2; clear hHeld2
      try simp only [Act.put, List.setIfInBounds_toArray, List.set_cons_zero, List.set_cons_succ]
      refine wpAnyH_take (i := 13) (oi := { dst := some 51, op := Op.build 34 #[(0, Operand.tmp 39), (1, Operand.tmp 50)], type := 34, pos := "law.go:51", after := #[{ on := 1, ground := Ground.data }, { on := 12, ground := Ground.data }], guard := none }) (v := ?_) rfl (by kernel_rfl) (by kernel_rfl) (by kernel_rfl) (fun _ _ _ h => h) (Or.inl ⟨by rfl, ?_⟩) hHeld ?_
      rotate_left
      · intro w hSw
        try dsimp only at hSw
        go_simp
        try with_reducible rfl
      try simp only [Act.put, List.setIfInBounds_toArray, List.set_cons_zero, List.set_cons_succ]
      refine wpAnyH_ready (rs := [15]) (by kernel_rfl) (by simp) ?_
      refine AllReadyH.cons (o := { dst := none, op := Op.store 34 (Operand.tmp 9) (Operand.tmp 51), type := 0, pos := "law.go:51", after := #[{ on := 14, ground := Ground.data }, { on := 13, ground := Ground.data }, { on := 12, ground := Ground.chain }, { on := 0, ground := Ground.phase }, { on := 1, ground := Ground.phase }, { on := 2, ground := Ground.phase }, { on := 3, ground := Ground.phase }, { on := 4, ground := Ground.phase }, { on := 5, ground := Ground.phase }, { on := 6, ground := Ground.phase }, { on := 7, ground := Ground.phase }, { on := 8, ground := Ground.phase }, { on := 9, ground := Ground.phase }, { on := 10, ground := Ground.phase }, { on := 11, ground := Ground.phase }, { on := 12, ground := Ground.phase }, { on := 13, ground := Ground.phase }, { on := 14, ground := Ground.phase }], guard := none }) rfl (fun K hK => ?_) (AllReadyH.nil)
      refine wp_store_g 34 (.tmp 9) (.tmp 51) rfl rfl _ 0 (arA z (some ⟨g9, 0, none⟩) ((n - i) + i) c9) (arA z (some ⟨g9, 0, none⟩) ((n - i) + i) c9) rfl rfl _ _ b_16 (by show 0 + 2 ≤ 2; decide) (by kernel_rfl) (by kernel_rfl) (by kernel_rfl) ?_
      have x_17 := Blk.rowFar x_16 (Nat.ne_of_lt (Nat.lt_of_lt_of_le x0.lt (Nat.le_refl _))) (arA z (some ⟨g9, 0, none⟩) ((n - i) + i) c9)
      have y_17 := Blk.rowFar y_16 (Nat.ne_of_lt (Nat.lt_of_lt_of_le y0.lt (Nat.le_refl _))) (arA z (some ⟨g9, 0, none⟩) ((n - i) + i) c9)
      have iv_17 := bi_row iv_16 (Nat.le_trans iv0.b.size (Nat.le_refl _)) (arA z (some ⟨g9, 0, none⟩) ((n - i) + i) c9)
      have jv_17 := bi_row jv_16 (Nat.le_refl _) (arA z (some ⟨g9, 0, none⟩) ((n - i) + i) c9)
      have own_17 := own_setRow own_16 _ (arA z (some ⟨g9, 0, none⟩) ((n - i) + i) c9) (own_blk_ne own_16 b_16 (by decide))
      have b_17 := Blk.row b_16 (arA z (some ⟨g9, 0, none⟩) ((n - i) + i) c9)
      refine hK.out _ _ (⟨x_17.cell 0, x_17.cell 1⟩) (fun hHeld2 => ?_)
      clear hK K hHeld; have hHeld := hHeld2; clear hHeld2
      try simp only [Act.put, List.setIfInBounds_toArray, List.set_cons_zero, List.set_cons_succ]
      refine wpAnyH_done (by kernel_rfl) ?_ _
      clear hHeld
      have hrd9 := Reads.of_own own_17
      go_wp2_with fail
      go_meet
      exact ⟨_, g9, c9, rfl, x_17, y_17, iv_17, b_17, ⟨hlB, hrd9⟩⟩
  case rest =>
  clear x0 y0 iv0 jv0 r7a r7b
  obtain ⟨ub, gb, cb, rfl, x2, y2, i2, b2, pb⟩ := hcut
  obtain ⟨W2, rfl⟩ : ∃ W : World, W = wc := ⟨_, rfl⟩
  have d2 : W2.cell? ⟨w.heap.size, 0, none⟩ = some (.string z) := x2.cell 0
  have d3 : (W2.alloc (.cells #[.string ByteArray.empty, .slice none 0 0] 34)).cell? ⟨w.heap.size, 0, none⟩ = some (.string z) := (x2.alloc (.cells #[.string ByteArray.empty, .slice none 0 0] 34)).cell 0
  go_upto_region 8 with fail
  go_cut [10] (fun v wx => ∃ (uc : Nat), v = .pointer (some ⟨uc, 0, none⟩) ∧ W2.heap.size ≤ uc ∧ BI W2 wx ∧ Blk wx uc 34 (arA z none 0 0))
  case first =>
    go_wp2_with (first | refine wpList_store_new rfl 34 _ _ rfl rfl _ (arA z none 0 0) rfl rfl 34 #[.string ByteArray.empty, .slice none 0 0] W2 rfl rfl rfl (by kernel_rfl) (by kernel_rfl) ?_)
    go_meet
    exact ⟨_, rfl, Nat.le_refl _, (BI.start W2).alloc _, Blk.new W2 34 (arA z none 0 0)⟩
  case rest =>
  clear d2 d3
  obtain ⟨uc, rfl, huc, j9, u9⟩ := hcut
  obtain ⟨W3, rfl⟩ : ∃ W : World, W = wc := ⟨_, rfl⟩
  go_wp2_with fail
  go_loopw [11, 56] (fun _ v wr => ∃ (j : Nat) (A9 : Option Addr) (c9 : Nat), v = .int .i64 j ∧ j ≤ n ∧ BI W2 wr ∧ wr.ownsRow W2.heap.size 23 2 (.slice A9 j c9) j (flatP (l.reverse.take j)) ∧ Blk wr uc 34 (arA z A9 j c9)) (fun _ v _ => n - (intOf v).toNat)
  case atStart => exact ⟨0, none, 0, rfl, Nat.zero_le _, j9, own_nil _ _, u9⟩
  case round =>
  clear j9 u9
  obtain ⟨j, A9, c9, rfl, hjn', jv, own, u⟩ := hrel
  by_cases hjn : j < n
  · obtain ⟨kk, hKK⟩ : ∃ kk, n - 1 - j = kk := ⟨_, rfl⟩
    have hKn : kk < n := by omega
    obtain ⟨q, hq⟩ : ∃ q, pt_ l kk = q := ⟨_, rfl⟩
    have hw1 : IntKind.i64.wrap ((n : Int) - 1) = (n : Int) - 1 := by simp [IntKind.wrap, IntKind.bits, IntKind.signed]; omega
    have hw2 : IntKind.i64.wrap ((n : Int) - 1 - (j : Int)) = (kk : Int) := by simp [IntKind.wrap, IntKind.bits, IntKind.signed]; omega
    have hjI : (j : Int) < (n : Int) := by omega
    have hKI : (kk : Int) < (n : Int) := by omega
    go_upto_region 12 with fail
    obtain ⟨W0, rfl⟩ : ∃ W0 : World, W0 = wr := ⟨_, rfl⟩
    have jv0 : BI W2 W0.drew := jv.drew
    have own0 : W0.drew.ownsRow W2.heap.size 23 2 (.slice A9 j c9) j (flatP (l.reverse.take j)) := own
    have u0 : Blk W0.drew uc 34 (arA z A9 j c9) := u
    clear jv own u
    refine wp_region_held_drew (S := fun w' => w'.cell? ⟨w.heap.size, 1, none⟩ = some (.slice (some ad) n c) ∧ ldT 23 (.pointer (some (ad.add (kk * 2)))) w' = some q.A) (by kernel_rfl) (s12_mk hq hR hKn (i2.call jv0.b) (x2.below jv0.b x2.lt)) (fun hHeld => ?_)
    refine wpAnyH_take (i := 0) (oi := { dst := some 59, op := Op.fieldAddr 34 (Operand.tmp 10) 1, type := 0, pos := "law.go:54", after := #[], guard := none }) (v := ?_) rfl (by kernel_rfl) (by kernel_rfl) (by kernel_rfl) (fun _ _ _ h => h) (Or.inl ⟨by rfl, ?_⟩) hHeld ?_
    rotate_left
    · intro w hSw
      try dsimp only at hSw
      go_simp
      try with_reducible rfl
    try simp only [Act.put, List.setIfInBounds_toArray, List.set_cons_zero, List.set_cons_succ]
    refine wpAnyH_take (i := 2) (oi := { dst := some 61, op := Op.fieldAddr 34 (Operand.tmp 3) 1, type := 0, pos := "law.go:54", after := #[], guard := none }) (v := ?_) rfl (by kernel_rfl) (by kernel_rfl) (by kernel_rfl) (fun _ _ _ h => h) (Or.inl ⟨by rfl, ?_⟩) hHeld ?_
    rotate_left
    · intro w hSw
      try dsimp only at hSw
      go_simp
      try with_reducible rfl
    try simp only [Act.put, List.setIfInBounds_toArray, List.set_cons_zero, List.set_cons_succ]
    refine wpAnyH_take (i := 3) (oi := { dst := some 62, op := Op.load 32 (Operand.tmp 61), type := 32, pos := "law.go:54", after := #[{ on := 2, ground := Ground.data }], guard := none }) (v := ?_) rfl (by kernel_rfl) (by kernel_rfl) (by kernel_rfl) (fun _ _ _ h => h) (Or.inl ⟨by rfl, ?_⟩) hHeld ?_
    rotate_left
    · intro w hSw
      try dsimp only at hSw
      go_simp
      try with_reducible rfl
    try simp only [Act.put, List.setIfInBounds_toArray, List.set_cons_zero, List.set_cons_succ]
    refine wpAnyH_take (i := 4) (oi := { dst := some 63, op := Op.move (Operand.tmp 7), type := 3, pos := "law.go:54", after := #[], guard := none }) (v := ?_) rfl (by kernel_rfl) (by kernel_rfl) (by kernel_rfl) (fun _ _ _ h => h) (Or.inl ⟨by rfl, ?_⟩) hHeld ?_
    rotate_left
    · intro w hSw
      try dsimp only at hSw
      go_simp
      try with_reducible rfl
    try simp only [Act.put, List.setIfInBounds_toArray, List.set_cons_zero, List.set_cons_succ]
    refine wpAnyH_take (i := 5) (oi := { dst := some 64, op := Op.binOp BinOp.sub 3 (Operand.tmp 63) (Operand.const (Value.int IntKind.i64 1)) 3, type := 3, pos := "law.go:54", after := #[{ on := 4, ground := Ground.data }], guard := none }) (v := ?_) rfl (by kernel_rfl) (by kernel_rfl) (by kernel_rfl) (fun _ _ _ h => h) (Or.inl ⟨by rfl, ?_⟩) hHeld ?_
    rotate_left
    · intro w hSw
      try dsimp only at hSw
      go_simp
      try with_reducible rfl
    try simp only [Act.put, List.setIfInBounds_toArray, List.set_cons_zero, List.set_cons_succ]
    refine wpAnyH_take (i := 6) (oi := { dst := some 65, op := Op.move (Operand.tmp 11), type := 3, pos := "law.go:54", after := #[], guard := none }) (v := ?_) rfl (by kernel_rfl) (by kernel_rfl) (by kernel_rfl) (fun _ _ _ h => h) (Or.inl ⟨by rfl, ?_⟩) hHeld ?_
    rotate_left
    · intro w hSw
      try dsimp only at hSw
      go_simp
      try with_reducible rfl
    try simp only [Act.put, List.setIfInBounds_toArray, List.set_cons_zero, List.set_cons_succ]
    refine wpAnyH_take (i := 7) (oi := { dst := some 66, op := Op.binOp BinOp.sub 3 (Operand.tmp 64) (Operand.tmp 65) 3, type := 3, pos := "law.go:54", after := #[{ on := 5, ground := Ground.data }, { on := 6, ground := Ground.data }], guard := none }) (v := ?_) rfl (by kernel_rfl) (by kernel_rfl) (by kernel_rfl) (fun _ _ _ h => h) (Or.inl ⟨by rfl, ?_⟩) hHeld ?_
    rotate_left
    · intro w hSw
      try dsimp only at hSw
      go_simp
      try with_reducible rfl
    try simp only [Act.put, List.setIfInBounds_toArray, List.set_cons_zero, List.set_cons_succ]
    refine wpAnyH_take (i := 8) (oi := { dst := some 67, op := Op.indexAddr 32 (Operand.tmp 62) (Operand.tmp 66), type := 0, pos := "law.go:54", after := #[{ on := 3, ground := Ground.data }, { on := 7, ground := Ground.data }], guard := none }) (v := ?_) rfl (by kernel_rfl) (by kernel_rfl) (by kernel_rfl) (fun _ _ _ h => h) (Or.inl ⟨by rfl, ?_⟩) hHeld ?_
    rotate_left
    · intro w hSw
      try dsimp only at hSw
      go_simp
      try with_reducible rfl
    try simp only [Act.put, List.setIfInBounds_toArray, List.set_cons_zero, List.set_cons_succ]
    refine wpAnyH_take (i := 9) (oi := { dst := some 68, op := Op.load 23 (Operand.tmp 67), type := 23, pos := "law.go:54", after := #[{ on := 8, ground := Ground.data }], guard := none }) (v := ?_) rfl (by kernel_rfl) (by kernel_rfl) (by kernel_rfl) (fun _ _ _ h => h) (Or.inl ⟨by rfl, ?_⟩) hHeld ?_
    rotate_left
    · intro w hSw
      try dsimp only at hSw
      go_simp
      try with_reducible rfl
    try simp only [Act.put, List.setIfInBounds_toArray, List.set_cons_zero, List.set_cons_succ]
    refine wpAnyH_ready (rs := [1, 10]) (by kernel_rfl) (by simp) ?_
    refine AllReadyH.cons (o := { dst := some 60, op := Op.load 32 (Operand.tmp 59), type := 32, pos := "law.go:54", after := #[{ on := 0, ground := Ground.data }], guard := none }) rfl (fun K hK => ?_) (AllReadyH.cons (o := { dst := some 69, op := Op.buildSlice 32 1 #[(0, Operand.tmp 68)], type := 32, pos := "law.go:54", after := #[{ on := 9, ground := Ground.data }], guard := none }) rfl (fun K hK => ?_) (AllReadyH.nil))
    · skip
      have cu_1 : (W0.drew).cell? ⟨uc, 1, none⟩ = some (.slice A9 j c9) := u0.cell 1
      go_simp
      refine hK.out _ _ (s12_mk hq hR hKn (i2.call jv0.b) (x2.below jv0.b x2.lt)) (fun hHeld2 => ?_)
      clear hK K hHeld; have hHeld := hHeld2; clear hHeld2
      try simp only [Act.put, List.setIfInBounds_toArray, List.set_cons_zero, List.set_cons_succ]
      refine wpAnyH_ready (rs := [10]) (by kernel_rfl) (by simp) ?_
      refine AllReadyH.cons (o := { dst := some 69, op := Op.buildSlice 32 1 #[(0, Operand.tmp 68)], type := 32, pos := "law.go:54", after := #[{ on := 9, ground := Ground.data }], guard := none }) rfl (fun K hK => ?_) (AllReadyH.nil)
      go_simp
      have xb_2 := Blk.new (W0.drew) 23 q.A
      have own_2 := own0.alloc (.cells q.A 23)
      have jv_2 := jv0.alloc (.cells q.A 23)
      have u_2 := u0.alloc (.cells q.A 23)
      refine hK.out _ _ (s12_mk hq hR hKn (i2.call jv_2.b) (x2.below jv_2.b x2.lt)) (fun hHeld2 => ?_)
      clear hK K hHeld; have hHeld := hHeld2; clear hHeld2
      try simp only [Act.put, List.setIfInBounds_toArray, List.set_cons_zero, List.set_cons_succ]
      refine wpAnyH_ready (rs := [11]) (by kernel_rfl) (by simp) ?_
      refine AllReadyH.cons (o := { dst := some 70, op := Op.call { callee := Callee.builtin Builtin.append, args := #[Operand.tmp 60, Operand.tmp 69], argTypes := #[32, 32] }, type := 32, pos := "law.go:54", after := #[{ on := 1, ground := Ground.data }, { on := 10, ground := Ground.data }], guard := none }) rfl (fun K hK => ?_) (AllReadyH.nil)
      refine wp_append_any _ (.tmp 60) (.tmp 69) 32 rfl W2.heap.size 23 i0i _ 2 16 Try.underlying32 HI.out hz0 hz1 hz2 rfl (by decide) _ j _ rfl own_2 _ _ 1 1 (flatP [q]) rfl (pts_of (l := [q]) xb_2 rfl).2 (flatP_one _) (by unfold maxLen; omega) (by omega) jv_2.b.size ?_
      intro v_3 W_3 own_3 hg_3 hat_3
      have jv_3 : BI W2 W_3 := Below.grown jv_2.b hg_3 jv_2.b.size (fun g hg => (own_lt9 own_2 g hg).1)
      have u_3 := u_2.grown hg_3 (fun e => own_blk_ne own_2 u_2 (by decide) e.symm)
      rw [← flatP_app, ← rev_step hll hjn hKK hq] at own_3
      obtain ⟨g9, c9', e9, hc9⟩ := own_formg own_3 (by omega)
      subst e9
      refine hK.out _ _ (s12_mk hq hR hKn (i2.call jv_3.b) (x2.below jv_3.b x2.lt)) (fun hHeld2 => ?_)
      clear hK K hHeld; have hHeld := hHeld2; clear hHeld2
      try simp only [Act.put, List.setIfInBounds_toArray, List.set_cons_zero, List.set_cons_succ]
      refine wpAnyH_take (i := 12) (oi := { dst := some 71, op := Op.fieldAddr 34 (Operand.tmp 10) 1, type := 0, pos := "law.go:54", after := #[{ on := 0, ground := Ground.phase }, { on := 1, ground := Ground.phase }, { on := 2, ground := Ground.phase }, { on := 3, ground := Ground.phase }, { on := 4, ground := Ground.phase }, { on := 5, ground := Ground.phase }, { on := 6, ground := Ground.phase }, { on := 7, ground := Ground.phase }, { on := 8, ground := Ground.phase }, { on := 9, ground := Ground.phase }, { on := 10, ground := Ground.phase }, { on := 11, ground := Ground.phase }], guard := none }) (v := ?_) rfl (by kernel_rfl) (by kernel_rfl) (by kernel_rfl) (fun _ _ _ h => h) (Or.inl ⟨by rfl, ?_⟩) hHeld ?_
      rotate_left
      · intro w hSw
        try dsimp only at hSw
        go_simp
        try with_reducible rfl
      try simp only [Act.put, List.setIfInBounds_toArray, List.set_cons_zero, List.set_cons_succ]
      refine wpAnyH_ready (rs := [13]) (by kernel_rfl) (by simp) ?_
      refine AllReadyH.cons (o := { dst := none, op := Op.store 32 (Operand.tmp 71) (Operand.tmp 70), type := 0, pos := "law.go:54", after := #[{ on := 12, ground := Ground.data }, { on := 11, ground := Ground.data }, { on := 11, ground := Ground.chain }, { on := 0, ground := Ground.phase }, { on := 1, ground := Ground.phase }, { on := 2, ground := Ground.phase }, { on := 3, ground := Ground.phase }, { on := 4, ground := Ground.phase }, { on := 5, ground := Ground.phase }, { on := 6, ground := Ground.phase }, { on := 7, ground := Ground.phase }, { on := 8, ground := Ground.phase }, { on := 9, ground := Ground.phase }, { on := 10, ground := Ground.phase }, { on := 11, ground := Ground.phase }], guard := none }) rfl (fun K hK => ?_) (AllReadyH.nil)
      have cu2 := u_3.cell 1; have fu2 := u_3.frozen 1
      simp at cu2
      go_simp
      have u_4 : Blk (W_3.setCell ⟨uc, 1, none⟩ (.slice (some ⟨g9, 0, none⟩) (j + 1) c9')) uc 34 (arA z (some ⟨g9, 0, none⟩) (j + 1) c9') := u_3.set_ 1 (.slice (some ⟨g9, 0, none⟩) (j + 1) c9')
      have jv_4 : BI W2 (W_3.setCell ⟨uc, 1, none⟩ (.slice (some ⟨g9, 0, none⟩) (j + 1) c9')) := jv_3.b.setCell (p := ⟨uc, 1, none⟩) huc (.slice (some ⟨g9, 0, none⟩) (j + 1) c9')
      have own_4 := own_setCell own_3 ⟨uc, 1, none⟩ (.slice (some ⟨g9, 0, none⟩) (j + 1) c9') (own_blk_ne own_3 u_3 (by decide))
      refine hK.out _ _ (s12_mk hq hR hKn (i2.call jv_4.b) (x2.below jv_4.b x2.lt)) (fun hHeld2 => ?_)
      clear hK K hHeld; have hHeld := hHeld2; clear hHeld2
      try simp only [Act.put, List.setIfInBounds_toArray, List.set_cons_zero, List.set_cons_succ]
      refine wpAnyH_done (by kernel_rfl) ?_ _
      clear hHeld
      go_wp2_with fail
      go_roundw
      case rel => exact ⟨j + 1, _, c9', by go_num, by omega, jv_4, own_4, u_4⟩
      case measure => simp [intOf]; omega
    · skip
      go_simp
      have xb_5 := Blk.new (W0.drew) 23 q.A
      have own_5 := own0.alloc (.cells q.A 23)
      have jv_5 := jv0.alloc (.cells q.A 23)
      have u_5 := u0.alloc (.cells q.A 23)
      refine hK.out _ _ (s12_mk hq hR hKn (i2.call jv_5.b) (x2.below jv_5.b x2.lt)) (fun hHeld2 => ?_)
      clear hK K hHeld; have hHeld := hHeld2; clear hHeld2
      try simp only [Act.put, List.setIfInBounds_toArray, List.set_cons_zero, List.set_cons_succ]
      refine wpAnyH_ready (rs := [1]) (by kernel_rfl) (by simp) ?_
      refine AllReadyH.cons (o := { dst := some 60, op := Op.load 32 (Operand.tmp 59), type := 32, pos := "law.go:54", after := #[{ on := 0, ground := Ground.data }], guard := none }) rfl (fun K hK => ?_) (AllReadyH.nil)
      have cu_6 : ((W0.alloc (.cells #[.int .i64 q.la, .int .i64 q.lo] 23)).drew).cell? ⟨uc, 1, none⟩ = some (.slice A9 j c9) := u_5.cell 1
      go_simp
      refine hK.out _ _ (s12_mk hq hR hKn (i2.call jv_5.b) (x2.below jv_5.b x2.lt)) (fun hHeld2 => ?_)
      clear hK K hHeld; have hHeld := hHeld2; clear hHeld2
      try simp only [Act.put, List.setIfInBounds_toArray, List.set_cons_zero, List.set_cons_succ]
      refine wpAnyH_ready (rs := [11]) (by kernel_rfl) (by simp) ?_
      refine AllReadyH.cons (o := { dst := some 70, op := Op.call { callee := Callee.builtin Builtin.append, args := #[Operand.tmp 60, Operand.tmp 69], argTypes := #[32, 32] }, type := 32, pos := "law.go:54", after := #[{ on := 1, ground := Ground.data }, { on := 10, ground := Ground.data }], guard := none }) rfl (fun K hK => ?_) (AllReadyH.nil)
      refine wp_append_any _ (.tmp 60) (.tmp 69) 32 rfl W2.heap.size 23 i0i _ 2 16 Try.underlying32 HI.out hz0 hz1 hz2 rfl (by decide) _ j _ rfl own_5 _ _ 1 1 (flatP [q]) rfl (pts_of (l := [q]) xb_5 rfl).2 (flatP_one _) (by unfold maxLen; omega) (by omega) jv_5.b.size ?_
      intro v_7 W_7 own_7 hg_7 hat_7
      have jv_7 : BI W2 W_7 := Below.grown jv_5.b hg_7 jv_5.b.size (fun g hg => (own_lt9 own_5 g hg).1)
      have u_7 := u_5.grown hg_7 (fun e => own_blk_ne own_5 u_5 (by decide) e.symm)
      rw [← flatP_app, ← rev_step hll hjn hKK hq] at own_7
      obtain ⟨g9, c9', e9, hc9⟩ := own_formg own_7 (by omega)
      subst e9
      refine hK.out _ _ (s12_mk hq hR hKn (i2.call jv_7.b) (x2.below jv_7.b x2.lt)) (fun hHeld2 => ?_)
      clear hK K hHeld; have hHeld := hHeld2; clear hHeld2
      try simp only [Act.put, List.setIfInBounds_toArray, List.set_cons_zero, List.set_cons_succ]
      refine wpAnyH_take (i := 12) (oi := { dst := some 71, op := Op.fieldAddr 34 (Operand.tmp 10) 1, type := 0, pos := "law.go:54", after := #[{ on := 0, ground := Ground.phase }, { on := 1, ground := Ground.phase }, { on := 2, ground := Ground.phase }, { on := 3, ground := Ground.phase }, { on := 4, ground := Ground.phase }, { on := 5, ground := Ground.phase }, { on := 6, ground := Ground.phase }, { on := 7, ground := Ground.phase }, { on := 8, ground := Ground.phase }, { on := 9, ground := Ground.phase }, { on := 10, ground := Ground.phase }, { on := 11, ground := Ground.phase }], guard := none }) (v := ?_) rfl (by kernel_rfl) (by kernel_rfl) (by kernel_rfl) (fun _ _ _ h => h) (Or.inl ⟨by rfl, ?_⟩) hHeld ?_
      rotate_left
      · intro w hSw
        try dsimp only at hSw
        go_simp
        try with_reducible rfl
      try simp only [Act.put, List.setIfInBounds_toArray, List.set_cons_zero, List.set_cons_succ]
      refine wpAnyH_ready (rs := [13]) (by kernel_rfl) (by simp) ?_
      refine AllReadyH.cons (o := { dst := none, op := Op.store 32 (Operand.tmp 71) (Operand.tmp 70), type := 0, pos := "law.go:54", after := #[{ on := 12, ground := Ground.data }, { on := 11, ground := Ground.data }, { on := 11, ground := Ground.chain }, { on := 0, ground := Ground.phase }, { on := 1, ground := Ground.phase }, { on := 2, ground := Ground.phase }, { on := 3, ground := Ground.phase }, { on := 4, ground := Ground.phase }, { on := 5, ground := Ground.phase }, { on := 6, ground := Ground.phase }, { on := 7, ground := Ground.phase }, { on := 8, ground := Ground.phase }, { on := 9, ground := Ground.phase }, { on := 10, ground := Ground.phase }, { on := 11, ground := Ground.phase }], guard := none }) rfl (fun K hK => ?_) (AllReadyH.nil)
      have cu2 := u_7.cell 1; have fu2 := u_7.frozen 1
      simp at cu2
      go_simp
      have u_8 : Blk (W_7.setCell ⟨uc, 1, none⟩ (.slice (some ⟨g9, 0, none⟩) (j + 1) c9')) uc 34 (arA z (some ⟨g9, 0, none⟩) (j + 1) c9') := u_7.set_ 1 (.slice (some ⟨g9, 0, none⟩) (j + 1) c9')
      have jv_8 : BI W2 (W_7.setCell ⟨uc, 1, none⟩ (.slice (some ⟨g9, 0, none⟩) (j + 1) c9')) := jv_7.b.setCell (p := ⟨uc, 1, none⟩) huc (.slice (some ⟨g9, 0, none⟩) (j + 1) c9')
      have own_8 := own_setCell own_7 ⟨uc, 1, none⟩ (.slice (some ⟨g9, 0, none⟩) (j + 1) c9') (own_blk_ne own_7 u_7 (by decide))
      refine hK.out _ _ (s12_mk hq hR hKn (i2.call jv_8.b) (x2.below jv_8.b x2.lt)) (fun hHeld2 => ?_)
      clear hK K hHeld; have hHeld := hHeld2; clear hHeld2
      try simp only [Act.put, List.setIfInBounds_toArray, List.set_cons_zero, List.set_cons_succ]
      refine wpAnyH_done (by kernel_rfl) ?_ _
      clear hHeld
      go_wp2_with fail
      go_roundw
      case rel => exact ⟨j + 1, _, c9', by go_num, by omega, jv_8, own_8, u_8⟩
      case measure => simp [intOf]; omega
  · have e0 : n = j := by omega
    subst e0
    obtain ⟨gc, cc, e9, -⟩ := own_formg own (by omega)
    simp only [Value.slice.injEq, true_and] at e9
    obtain ⟨rfl, rfl⟩ := e9
    have pc : Pts wr wr.heap.size (some ⟨gc, 0, none⟩) n l.reverse := by
      have := Reads.of_own own
      rw [List.take_of_length_le (by rw [List.length_reverse]; omega)] at this
      exact ⟨by rw [List.length_reverse]; exact hll, this⟩
    have pa := Pts.more (hR.below (i2.call jv.b).b) (i2.call jv.b).b.size
    have pb9 := pts_ca pb jv.b
    have x9 := x2.below jv.b x2.lt
    have y9 := y2.below jv.b y2.lt
    have b9 := b2.below jv.b b2.lt
    have i9 := i2.call jv.b
    have hjI : ¬ (n : Int) < (n : Int) := by omega
    obtain ⟨hrt, rB, rC⟩ := HRT.out
    obtain ⟨q2, q3, q4⟩ := HQ.out
    obtain ⟨s2, s3, s4⟩ := HS.out
    obtain ⟨k1, k2, k3⟩ := HK.out
    have hmB : n - i + i ≤ maxLen := by unfold maxLen; omega
    have zA := fun W h => size_any z (some ad) n c l W hz h hm
    have zB := fun W h => size_any z (some ⟨gb, 0, none⟩) (n - i + i) cb (l.drop i ++ l.take i) W hz h hmB
    have zC := fun W h => size_any z (some ⟨gc, 0, none⟩) n c9 l.reverse W hz h hm
    have eA := fun W h => Edge_any z (some ad) n c l p W hz h hm
    have eB := fun W h => Edge_any z (some ⟨gb, 0, none⟩) (n - i + i) cb (l.drop i ++ l.take i) p W hz h hmB
    have eC := fun W h => Edge_any z (some ⟨gc, 0, none⟩) n c9 l.reverse p W hz h hm
    have eI := fun W h => Edge_any z (some ad) n c l (pt_ l i) W hz h hm
    have nA := fun W h => Inside_any z (some ad) n c l p W hz h hm
    have nB := fun W h => Inside_any z (some ⟨gb, 0, none⟩) (n - i + i) cb (l.drop i ++ l.take i) p W hz h hmB
    have nC := fun W h => Inside_any z (some ⟨gc, 0, none⟩) n c9 l.reverse p W hz h hm
    have nI := fun W h => Inside_any z (some ad) n c l (pt_ l i) W hz h hm
    rw [rB] at eB nB
    rw [rC] at eC nC
    rw [hrt] at eA nA
    rw [k1] at eI nI
    simp only [Bool.true_and] at eA eB eC eI nA nB nC nI
    rw [q2] at eB; rw [q3] at nB; rw [q4] at zB
    rw [s2] at eC; rw [s3] at nC; rw [s4] at zC
    rw [k2] at eI; rw [k3] at nI
    obtain ⟨zs1, zs2⟩ := HSZ.out
    have hwS : IntKind.i64.wrap (-szV z l) = -szV z l := by rw [zs1]; simp [IntKind.wrap, IntKind.bits, IntKind.signed]; omega
    have hEI := HEI.out
    obtain ⟨q, hq⟩ : ∃ q, pt_ l i = q := ⟨_, rfl⟩
    rw [hq] at eI nI
    clear rB rC hrt k1 k2 k3 q2 q3 q4 s2 s3 s4 zs1 zs2 HSZ HEI HQ HS HK HRT hmB own hlB i2 x2 y2 b2 jv pb
    generalize hlb : l.drop i ++ l.take i = lb at *
    generalize hlc : l.reverse = lc at *
    generalize n - i + i = nb at *
    generalize szV z l = SZ at *
    generalize inB l p = I at *
    generalize edB l p = E at *
    clear hlb hlc
    go_upto_region 14 with fail
    obtain ⟨W3, rfl⟩ : ∃ W : World, W = wr := ⟨_, rfl⟩
    have ZZ := Lib.hid (cm_mk (W := W3.drew) i9.drew (show Pts W3.drew W3.drew.heap.size _ _ _ from pa) (show Pts W3.drew W3.drew.heap.size _ _ _ from pb9) (show Pts W3.drew W3.drew.heap.size _ _ _ from pc) x9 y9 b9 u)
    clear x9 y9 b9 u i9 pa pb9 pc
    refine wp_region_held_drew (S := fun w' => BI w w' ∧ Pts w' w'.heap.size (some ad) n l ∧ Pts w' w'.heap.size (some ⟨gb, 0, none⟩) nb lb ∧ Pts w' w'.heap.size (some ⟨gc, 0, none⟩) n lc ∧ Blk w' w.heap.size 34 (arA z (some ad) n c) ∧ Blk w' (w.heap.size + 1) 23 p.A ∧ Blk w' ub 34 (arA z (some ⟨gb, 0, none⟩) nb cb) ∧ Blk w' uc 34 (arA z (some ⟨gc, 0, none⟩) n c9) ∧ ldT 34 (.pointer (some ⟨w.heap.size, 0, none⟩)) w' = some (arA z (some ad) n c) ∧ ldT 23 (.pointer (some ⟨w.heap.size + 1, 0, none⟩)) w' = some p.A ∧ ldT 34 (.pointer (some ⟨ub, 0, none⟩)) w' = some (arA z (some ⟨gb, 0, none⟩) nb cb) ∧ ldT 34 (.pointer (some ⟨uc, 0, none⟩)) w' = some (arA z (some ⟨gc, 0, none⟩) n c9)) (by kernel_rfl) (ZZ.out) (fun hHeld => ?_)
    refine wpAnyH_take (i := 0) (oi := { dst := some 73, op := Op.load 34 (Operand.tmp 3), type := 34, pos := "law.go:56", after := #[], guard := none }) (v := ?_) rfl (by kernel_rfl) (by kernel_rfl) (by kernel_rfl) (fun _ _ _ h => h) (Or.inl ⟨by rfl, ?_⟩) hHeld ?_
    rotate_left
    · intro w hSw
      try dsimp only at hSw
      go_simp
      try with_reducible rfl
    try simp only [Act.put, List.setIfInBounds_toArray, List.set_cons_zero, List.set_cons_succ]
    refine wpAnyH_take (i := 1) (oi := { dst := some 74, op := Op.load 23 (Operand.tmp 4), type := 23, pos := "law.go:56", after := #[], guard := none }) (v := ?_) rfl (by kernel_rfl) (by kernel_rfl) (by kernel_rfl) (fun _ _ _ h => h) (Or.inl ⟨by rfl, ?_⟩) hHeld ?_
    rotate_left
    · intro w hSw
      try dsimp only at hSw
      go_simp
      try with_reducible rfl
    try simp only [Act.put, List.setIfInBounds_toArray, List.set_cons_zero, List.set_cons_succ]
    refine wpAnyH_take (i := 3) (oi := { dst := some 76, op := Op.load 34 (Operand.tmp 3), type := 34, pos := "law.go:56", after := #[], guard := none }) (v := ?_) rfl (by kernel_rfl) (by kernel_rfl) (by kernel_rfl) (fun _ _ _ h => h) (Or.inl ⟨by rfl, ?_⟩) hHeld ?_
    rotate_left
    · intro w hSw
      try dsimp only at hSw
      go_simp
      try with_reducible rfl
    try simp only [Act.put, List.setIfInBounds_toArray, List.set_cons_zero, List.set_cons_succ]
    refine wpAnyH_take (i := 4) (oi := { dst := some 77, op := Op.load 23 (Operand.tmp 4), type := 23, pos := "law.go:56", after := #[], guard := none }) (v := ?_) rfl (by kernel_rfl) (by kernel_rfl) (by kernel_rfl) (fun _ _ _ h => h) (Or.inl ⟨by rfl, ?_⟩) hHeld ?_
    rotate_left
    · intro w hSw
      try dsimp only at hSw
      go_simp
      try with_reducible rfl
    try simp only [Act.put, List.setIfInBounds_toArray, List.set_cons_zero, List.set_cons_succ]
    refine wpAnyH_take (i := 6) (oi := { dst := some 79, op := Op.load 34 (Operand.tmp 3), type := 34, pos := "law.go:56", after := #[], guard := none }) (v := ?_) rfl (by kernel_rfl) (by kernel_rfl) (by kernel_rfl) (fun _ _ _ h => h) (Or.inl ⟨by rfl, ?_⟩) hHeld ?_
    rotate_left
    · intro w hSw
      try dsimp only at hSw
      go_simp
      try with_reducible rfl
    try simp only [Act.put, List.setIfInBounds_toArray, List.set_cons_zero, List.set_cons_succ]
    refine wpAnyH_ready (rs := [2]) (by kernel_rfl) (by simp) ?_
    refine AllReadyH.cons (o := { dst := some 75, op := Op.call { callee := Callee.value (Operand.func 27), args := #[Operand.tmp 73, Operand.tmp 74], argTypes := #[34, 23] }, type := 4, pos := "law.go:56", after := #[{ on := 0, ground := Ground.data }, { on := 1, ground := Ground.data }], guard := none }) rfl (fun K hK => ?_) (AllReadyH.nil)
    go_simp
    refine (nA _ hHeld.2.1).mono ?_; rintro e w_51 ⟨rfl, hb_51⟩
    try go_wp2_with fail
    refine hK.out _ _ (cm_on hHeld hb_51) (fun hHeld2 => ?_)
    clear hK K hHeld; have hHeld := hHeld2; clear hHeld2
    try simp only [Act.put, List.setIfInBounds_toArray, List.set_cons_zero, List.set_cons_succ]
    refine wpAnyH_ready (rs := [5]) (by kernel_rfl) (by simp) ?_
    refine AllReadyH.cons (o := { dst := some 78, op := Op.call { callee := Callee.value (Operand.func 25), args := #[Operand.tmp 76, Operand.tmp 77], argTypes := #[34, 23] }, type := 4, pos := "law.go:56", after := #[{ on := 3, ground := Ground.data }, { on := 4, ground := Ground.data }, { on := 2, ground := Ground.chain }], guard := none }) rfl (fun K hK => ?_) (AllReadyH.nil)
    go_simp
    refine (eA _ hHeld.2.1).mono ?_; rintro e w_52 ⟨rfl, hb_52⟩
    try go_wp2_with fail
    refine hK.out _ _ (cm_on hHeld hb_52) (fun hHeld2 => ?_)
    clear hK K hHeld; have hHeld := hHeld2; clear hHeld2
    try simp only [Act.put, List.setIfInBounds_toArray, List.set_cons_zero, List.set_cons_succ]
    refine wpAnyH_ready (rs := [7]) (by kernel_rfl) (by simp) ?_
    refine AllReadyH.cons (o := { dst := some 80, op := Op.call { callee := Callee.value (Operand.func 29), args := #[Operand.tmp 79], argTypes := #[34] }, type := 2, pos := "law.go:56", after := #[{ on := 6, ground := Ground.data }, { on := 5, ground := Ground.chain }], guard := none }) rfl (fun K hK => ?_) (AllReadyH.nil)
    go_simp
    refine (zA _ hHeld.2.1).mono ?_; rintro e w_53 ⟨rfl, hb_53⟩
    try go_wp2_with fail
    refine hK.out _ _ (cm_on hHeld hb_53) (fun hHeld2 => ?_)
    clear hK K hHeld; have hHeld := hHeld2; clear hHeld2
    try simp only [Act.put, List.setIfInBounds_toArray, List.set_cons_zero, List.set_cons_succ]
    refine wpAnyH_take (i := 8) (oi := { dst := some 12, op := Op.assign (Operand.tmp 75), type := 4, pos := "law.go:56", after := #[{ on := 2, ground := Ground.data }, { on := 7, ground := Ground.chain }, { on := 0, ground := Ground.phase }, { on := 1, ground := Ground.phase }, { on := 2, ground := Ground.phase }, { on := 3, ground := Ground.textOnly Departure.lateStores }, { on := 4, ground := Ground.textOnly Departure.lateStores }, { on := 5, ground := Ground.textOnly Departure.lateStoresUnsure }, { on := 6, ground := Ground.textOnly Departure.lateStores }, { on := 7, ground := Ground.textOnly Departure.lateStoresUnsure }], guard := none }) (v := ?_) rfl (by kernel_rfl) (by kernel_rfl) (by kernel_rfl) (fun _ _ _ h => h) (Or.inl ⟨by rfl, ?_⟩) hHeld ?_
    rotate_left
    · intro w hSw
      try dsimp only at hSw
      go_simp
      try with_reducible rfl
    try simp only [Act.put, List.setIfInBounds_toArray, List.set_cons_zero, List.set_cons_succ]
    refine wpAnyH_take (i := 9) (oi := { dst := some 13, op := Op.assign (Operand.tmp 78), type := 4, pos := "law.go:56", after := #[{ on := 5, ground := Ground.data }, { on := 8, ground := Ground.chain }, { on := 0, ground := Ground.phase }, { on := 1, ground := Ground.phase }, { on := 2, ground := Ground.phase }, { on := 3, ground := Ground.phase }, { on := 4, ground := Ground.phase }, { on := 5, ground := Ground.phase }, { on := 6, ground := Ground.textOnly Departure.lateStores }, { on := 7, ground := Ground.textOnly Departure.lateStoresUnsure }, { on := 8, ground := Ground.phase }], guard := none }) (v := ?_) rfl (by kernel_rfl) (by kernel_rfl) (by kernel_rfl) (fun _ _ _ h => h) (Or.inl ⟨by rfl, ?_⟩) hHeld ?_
    rotate_left
    · intro w hSw
      try dsimp only at hSw
      go_simp
      try with_reducible rfl
    try simp only [Act.put, List.setIfInBounds_toArray, List.set_cons_zero, List.set_cons_succ]
    refine wpAnyH_take (i := 10) (oi := { dst := some 14, op := Op.assign (Operand.tmp 80), type := 2, pos := "law.go:56", after := #[{ on := 7, ground := Ground.data }, { on := 9, ground := Ground.chain }, { on := 0, ground := Ground.phase }, { on := 1, ground := Ground.phase }, { on := 2, ground := Ground.phase }, { on := 3, ground := Ground.phase }, { on := 4, ground := Ground.phase }, { on := 5, ground := Ground.phase }, { on := 6, ground := Ground.phase }, { on := 7, ground := Ground.phase }, { on := 8, ground := Ground.phase }, { on := 9, ground := Ground.phase }], guard := none }) (v := ?_) rfl (by kernel_rfl) (by kernel_rfl) (by kernel_rfl) (fun _ _ _ h => h) (Or.inl ⟨by rfl, ?_⟩) hHeld ?_
    rotate_left
    · intro w hSw
      try dsimp only at hSw
      go_simp
      try with_reducible rfl
    try simp only [Act.put, List.setIfInBounds_toArray, List.set_cons_zero, List.set_cons_succ]
    refine wpAnyH_done (by kernel_rfl) ?_ _
    obtain ⟨j1, j2, j3, j4, jx, jy, jb, jc, -⟩ := hHeld
    clear ZZ
    have hSS : (SZ != SZ) = false := by simp
    have hSN : (-SZ != -SZ) = false := by simp
    have hcs : E = false ∨ (E = true ∧ I = true) := by
      cases E
      · exact .inl rfl
      · exact .inr ⟨rfl, hEI rfl⟩
    clear hEI
    rcases hcs with rfl | ⟨rfl, rfl⟩
    · have hII : (I != I) = false := by cases I <;> rfl
      go_wp2_with (first | refine wpList_row_g rfl 34 _ rfl _ rfl _ _ _ _ jb Try.underlying34 rfl (by kernel_rfl) ?_ | refine wpList_row_g rfl 23 _ rfl _ rfl _ _ _ _ jy Try.underlying23 rfl (by kernel_rfl) ?_)
      refine (nB _ j3).mono ?_; rintro e wq0 ⟨rfl, hq0⟩
      replace jx := jx.below hq0 jx.lt; replace jy := jy.below hq0 jy.lt; replace jb := jb.below hq0 jb.lt; replace jc := jc.below hq0 jc.lt
      replace j2 := pts_ca j2 hq0; replace j3 := pts_ca j3 hq0; replace j4 := pts_ca j4 hq0
      replace j1 := j1.call hq0
      clear hq0
      go_wp2_with (first | refine wpList_row_g rfl 34 _ rfl _ rfl _ _ _ _ jb Try.underlying34 rfl (by kernel_rfl) ?_ | refine wpList_row_g rfl 23 _ rfl _ rfl _ _ _ _ jy Try.underlying23 rfl (by kernel_rfl) ?_)
      refine (eB _ j3).mono ?_; rintro e wq1 ⟨rfl, hq1⟩
      replace jx := jx.below hq1 jx.lt; replace jy := jy.below hq1 jy.lt; replace jb := jb.below hq1 jb.lt; replace jc := jc.below hq1 jc.lt
      replace j2 := pts_ca j2 hq1; replace j3 := pts_ca j3 hq1; replace j4 := pts_ca j4 hq1
      replace j1 := j1.call hq1
      clear hq1
      go_wp2_with (first | refine wpList_row_g rfl 34 _ rfl _ rfl _ _ _ _ jb Try.underlying34 rfl (by kernel_rfl) ?_)
      refine (zB _ j3).mono ?_; rintro e wq2 ⟨rfl, hq2⟩
      replace jx := jx.below hq2 jx.lt; replace jy := jy.below hq2 jy.lt; replace jb := jb.below hq2 jb.lt; replace jc := jc.below hq2 jc.lt
      replace j2 := pts_ca j2 hq2; replace j3 := pts_ca j3 hq2; replace j4 := pts_ca j4 hq2
      replace j1 := j1.call hq2
      clear hq2
      go_wp2_with (first | refine wpList_row_g rfl 34 _ rfl _ rfl _ _ _ _ jc Try.underlying34 rfl (by kernel_rfl) ?_ | refine wpList_row_g rfl 23 _ rfl _ rfl _ _ _ _ jy Try.underlying23 rfl (by kernel_rfl) ?_)
      refine (nC _ j4).mono ?_; rintro e wq3 ⟨rfl, hq3⟩
      replace jx := jx.below hq3 jx.lt; replace jy := jy.below hq3 jy.lt; replace jb := jb.below hq3 jb.lt; replace jc := jc.below hq3 jc.lt
      replace j2 := pts_ca j2 hq3; replace j3 := pts_ca j3 hq3; replace j4 := pts_ca j4 hq3
      replace j1 := j1.call hq3
      clear hq3
      go_wp2_with (first | refine wpList_row_g rfl 34 _ rfl _ rfl _ _ _ _ jc Try.underlying34 rfl (by kernel_rfl) ?_ | refine wpList_row_g rfl 23 _ rfl _ rfl _ _ _ _ jy Try.underlying23 rfl (by kernel_rfl) ?_)
      refine (eC _ j4).mono ?_; rintro e wq4 ⟨rfl, hq4⟩
      replace jx := jx.below hq4 jx.lt; replace jy := jy.below hq4 jy.lt; replace jb := jb.below hq4 jb.lt; replace jc := jc.below hq4 jc.lt
      replace j2 := pts_ca j2 hq4; replace j3 := pts_ca j3 hq4; replace j4 := pts_ca j4 hq4
      replace j1 := j1.call hq4
      clear hq4
      go_wp2_with (first | refine wpList_row_g rfl 34 _ rfl _ rfl _ _ _ _ jc Try.underlying34 rfl (by kernel_rfl) ?_)
      refine (zC _ j4).mono ?_; rintro e wq5 ⟨rfl, hq5⟩
      replace jx := jx.below hq5 jx.lt; replace jy := jy.below hq5 jy.lt; replace jb := jb.below hq5 jb.lt; replace jc := jc.below hq5 jc.lt
      replace j2 := pts_ca j2 hq5; replace j3 := pts_ca j3 hq5; replace j4 := pts_ca j4 hq5
      replace j1 := j1.call hq5
      clear hq5
      clear nA nB nC eA eB eC zA zB zC
      go_upto_region 17 with fail
      have ZZ := Lib.hid (s17_mk (W := wq5.drew) hq hi1 j1.drew (show Blk wq5.drew _ _ _ from jx) (show Pts wq5.drew wq5.drew.heap.size _ _ _ from j2))
      clear jx jy jb jc j1 j2 j3 j4
      refine wp_region_held_drew (S := fun w' => BI w w' ∧ Blk w' w.heap.size 34 (arA z (some ad) n c) ∧ Pts w' w'.heap.size (some ad) n l ∧ w'.cell? ⟨w.heap.size, 1, none⟩ = some (.slice (some ad) n c) ∧ ldT 34 (.pointer (some ⟨w.heap.size, 0, none⟩)) w' = some (arA z (some ad) n c) ∧ ldT 23 (.pointer (some (ad.add (i * 2)))) w' = some q.A) (by kernel_rfl) (ZZ.out) (fun hHeld => ?_)
      refine wpAnyH_take (i := 0) (oi := { dst := some 127, op := Op.load 34 (Operand.tmp 3), type := 34, pos := "law.go:60", after := #[], guard := none }) (v := ?_) rfl (by kernel_rfl) (by kernel_rfl) (by kernel_rfl) (fun _ _ _ h => h) (Or.inl ⟨by rfl, ?_⟩) hHeld ?_
      rotate_left
      · intro w hSw
        try dsimp only at hSw
        go_simp
        try with_reducible rfl
      try simp only [Act.put, List.setIfInBounds_toArray, List.set_cons_zero, List.set_cons_succ]
      refine wpAnyH_take (i := 1) (oi := { dst := some 128, op := Op.fieldAddr 34 (Operand.tmp 3) 1, type := 0, pos := "law.go:60", after := #[], guard := none }) (v := ?_) rfl (by kernel_rfl) (by kernel_rfl) (by kernel_rfl) (fun _ _ _ h => h) (Or.inl ⟨by rfl, ?_⟩) hHeld ?_
      rotate_left
      · intro w hSw
        try dsimp only at hSw
        go_simp
        try with_reducible rfl
      try simp only [Act.put, List.setIfInBounds_toArray, List.set_cons_zero, List.set_cons_succ]
      refine wpAnyH_take (i := 2) (oi := { dst := some 129, op := Op.load 32 (Operand.tmp 128), type := 32, pos := "law.go:60", after := #[{ on := 1, ground := Ground.data }], guard := none }) (v := ?_) rfl (by kernel_rfl) (by kernel_rfl) (by kernel_rfl) (fun _ _ _ h => h) (Or.inl ⟨by rfl, ?_⟩) hHeld ?_
      rotate_left
      · intro w hSw
        try dsimp only at hSw
        go_simp
        try with_reducible rfl
      try simp only [Act.put, List.setIfInBounds_toArray, List.set_cons_zero, List.set_cons_succ]
      refine wpAnyH_take (i := 3) (oi := { dst := some 130, op := Op.move (Operand.tmp 8), type := 3, pos := "law.go:60", after := #[], guard := none }) (v := ?_) rfl (by kernel_rfl) (by kernel_rfl) (by kernel_rfl) (fun _ _ _ h => h) (Or.inl ⟨by rfl, ?_⟩) hHeld ?_
      rotate_left
      · intro w hSw
        try dsimp only at hSw
        go_simp
        try with_reducible rfl
      try simp only [Act.put, List.setIfInBounds_toArray, List.set_cons_zero, List.set_cons_succ]
      refine wpAnyH_take (i := 4) (oi := { dst := some 131, op := Op.indexAddr 32 (Operand.tmp 129) (Operand.tmp 130), type := 0, pos := "law.go:60", after := #[{ on := 2, ground := Ground.data }, { on := 3, ground := Ground.data }], guard := none }) (v := ?_) rfl (by kernel_rfl) (by kernel_rfl) (by kernel_rfl) (fun _ _ _ h => h) (Or.inl ⟨by rfl, ?_⟩) hHeld ?_
      rotate_left
      · intro w hSw
        try dsimp only at hSw
        go_simp
        try with_reducible rfl
      try simp only [Act.put, List.setIfInBounds_toArray, List.set_cons_zero, List.set_cons_succ]
      refine wpAnyH_take (i := 5) (oi := { dst := some 132, op := Op.load 23 (Operand.tmp 131), type := 23, pos := "law.go:60", after := #[{ on := 4, ground := Ground.data }], guard := none }) (v := ?_) rfl (by kernel_rfl) (by kernel_rfl) (by kernel_rfl) (fun _ _ _ h => h) (Or.inl ⟨by rfl, ?_⟩) hHeld ?_
      rotate_left
      · intro w hSw
        try dsimp only at hSw
        go_simp
        try with_reducible rfl
      try simp only [Act.put, List.setIfInBounds_toArray, List.set_cons_zero, List.set_cons_succ]
      refine wpAnyH_ready (rs := [6]) (by kernel_rfl) (by simp) ?_
      refine AllReadyH.cons (o := { dst := some 133, op := Op.call { callee := Callee.value (Operand.func 25), args := #[Operand.tmp 127, Operand.tmp 132], argTypes := #[34, 23] }, type := 4, pos := "law.go:60", after := #[{ on := 0, ground := Ground.data }, { on := 5, ground := Ground.data }], guard := none }) rfl (fun K hK => ?_) (AllReadyH.nil)
      go_simp
      refine (eI _ hHeld.2.2.1).mono ?_; rintro e w_51 ⟨rfl, hb_51⟩
      try go_wp2_with fail
      refine hK.out _ _ (s17_on hq hi1 hHeld hb_51) (fun hHeld2 => ?_)
      clear hK K hHeld; have hHeld := hHeld2; clear hHeld2
      try simp only [Act.put, List.setIfInBounds_toArray, List.set_cons_zero, List.set_cons_succ]
      refine wpAnyH_take (i := 7) (oi := { dst := some 134, op := Op.move (Operand.tmp 133), type := 4, pos := "law.go:60", after := #[{ on := 6, ground := Ground.data }, { on := 6, ground := Ground.chain }], guard := none }) (v := ?_) rfl (by kernel_rfl) (by kernel_rfl) (by kernel_rfl) (fun _ _ _ h => h) (Or.inl ⟨by rfl, ?_⟩) hHeld ?_
      rotate_left
      · intro w hSw
        try dsimp only at hSw
        go_simp
        try with_reducible rfl
      try simp only [Act.put, List.setIfInBounds_toArray, List.set_cons_zero, List.set_cons_succ]
      refine wpAnyH_take (i := 8) (oi := { dst := some 135, op := Op.load 34 (Operand.tmp 3), type := 34, pos := "law.go:60", after := #[{ on := 7, ground := Ground.guard }], guard := some (7, true) }) (v := ?_) rfl (by kernel_rfl) (by kernel_rfl) (by kernel_rfl) (fun _ _ _ h => h) (Or.inl ⟨by rfl, ?_⟩) hHeld ?_
      rotate_left
      · intro w hSw
        try dsimp only at hSw
        go_simp
        try with_reducible rfl
      try simp only [Act.put, List.setIfInBounds_toArray, List.set_cons_zero, List.set_cons_succ]
      refine wpAnyH_take (i := 9) (oi := { dst := some 136, op := Op.fieldAddr 34 (Operand.tmp 3) 1, type := 0, pos := "law.go:60", after := #[{ on := 7, ground := Ground.guard }], guard := some (7, true) }) (v := ?_) rfl (by kernel_rfl) (by kernel_rfl) (by kernel_rfl) (fun _ _ _ h => h) (Or.inl ⟨by rfl, ?_⟩) hHeld ?_
      rotate_left
      · intro w hSw
        try dsimp only at hSw
        go_simp
        try with_reducible rfl
      try simp only [Act.put, List.setIfInBounds_toArray, List.set_cons_zero, List.set_cons_succ]
      refine wpAnyH_take (i := 10) (oi := { dst := some 137, op := Op.load 32 (Operand.tmp 136), type := 32, pos := "law.go:60", after := #[{ on := 9, ground := Ground.data }, { on := 7, ground := Ground.guard }], guard := some (7, true) }) (v := ?_) rfl (by kernel_rfl) (by kernel_rfl) (by kernel_rfl) (fun _ _ _ h => h) (Or.inl ⟨by rfl, ?_⟩) hHeld ?_
      rotate_left
      · intro w hSw
        try dsimp only at hSw
        go_simp
        try with_reducible rfl
      try simp only [Act.put, List.setIfInBounds_toArray, List.set_cons_zero, List.set_cons_succ]
      refine wpAnyH_take (i := 11) (oi := { dst := some 138, op := Op.move (Operand.tmp 8), type := 3, pos := "law.go:60", after := #[{ on := 7, ground := Ground.guard }], guard := some (7, true) }) (v := ?_) rfl (by kernel_rfl) (by kernel_rfl) (by kernel_rfl) (fun _ _ _ h => h) (Or.inl ⟨by rfl, ?_⟩) hHeld ?_
      rotate_left
      · intro w hSw
        try dsimp only at hSw
        go_simp
        try with_reducible rfl
      try simp only [Act.put, List.setIfInBounds_toArray, List.set_cons_zero, List.set_cons_succ]
      refine wpAnyH_take (i := 12) (oi := { dst := some 139, op := Op.indexAddr 32 (Operand.tmp 137) (Operand.tmp 138), type := 0, pos := "law.go:60", after := #[{ on := 10, ground := Ground.data }, { on := 11, ground := Ground.data }, { on := 7, ground := Ground.guard }], guard := some (7, true) }) (v := ?_) rfl (by kernel_rfl) (by kernel_rfl) (by kernel_rfl) (fun _ _ _ h => h) (Or.inl ⟨by rfl, ?_⟩) hHeld ?_
      rotate_left
      · intro w hSw
        try dsimp only at hSw
        go_simp
        try with_reducible rfl
      try simp only [Act.put, List.setIfInBounds_toArray, List.set_cons_zero, List.set_cons_succ]
      refine wpAnyH_take (i := 13) (oi := { dst := some 140, op := Op.load 23 (Operand.tmp 139), type := 23, pos := "law.go:60", after := #[{ on := 12, ground := Ground.data }, { on := 7, ground := Ground.guard }], guard := some (7, true) }) (v := ?_) rfl (by kernel_rfl) (by kernel_rfl) (by kernel_rfl) (fun _ _ _ h => h) (Or.inl ⟨by rfl, ?_⟩) hHeld ?_
      rotate_left
      · intro w hSw
        try dsimp only at hSw
        go_simp
        try with_reducible rfl
      try simp only [Act.put, List.setIfInBounds_toArray, List.set_cons_zero, List.set_cons_succ]
      refine wpAnyH_ready (rs := [14]) (by kernel_rfl) (by simp) ?_
      refine AllReadyH.cons (o := { dst := some 141, op := Op.call { callee := Callee.value (Operand.func 27), args := #[Operand.tmp 135, Operand.tmp 140], argTypes := #[34, 23] }, type := 4, pos := "law.go:60", after := #[{ on := 8, ground := Ground.data }, { on := 13, ground := Ground.data }, { on := 7, ground := Ground.chain }, { on := 7, ground := Ground.guard }], guard := some (7, true) }) rfl (fun K hK => ?_) (AllReadyH.nil)
      go_simp
      refine (nI _ hHeld.2.2.1).mono ?_; rintro e w_52 ⟨rfl, hb_52⟩
      try go_wp2_with fail
      refine hK.out _ _ (s17_on hq hi1 hHeld hb_52) (fun hHeld2 => ?_)
      clear hK K hHeld; have hHeld := hHeld2; clear hHeld2
      try simp only [Act.put, List.setIfInBounds_toArray, List.set_cons_zero, List.set_cons_succ]
      refine wpAnyH_take (i := 15) (oi := { dst := some 142, op := Op.pick (Operand.tmp 134) (Operand.tmp 141) (Operand.const (Value.bool false)), type := 4, pos := "law.go:60", after := #[{ on := 7, ground := Ground.data }, { on := 14, ground := Ground.data }], guard := none }) (v := ?_) rfl (by kernel_rfl) (by kernel_rfl) (by kernel_rfl) (fun _ _ _ h => h) (Or.inl ⟨by rfl, ?_⟩) hHeld ?_
      rotate_left
      · intro w hSw
        try dsimp only at hSw
        go_simp
        try with_reducible rfl
      try simp only [Act.put, List.setIfInBounds_toArray, List.set_cons_zero, List.set_cons_succ]
      refine wpAnyH_take (i := 16) (oi := { dst := some 6, op := Op.assign (Operand.tmp 142), type := 4, pos := "law.go:60", after := #[{ on := 15, ground := Ground.data }, { on := 14, ground := Ground.chain }, { on := 0, ground := Ground.phase }, { on := 1, ground := Ground.phase }, { on := 2, ground := Ground.phase }, { on := 3, ground := Ground.phase }, { on := 4, ground := Ground.phase }, { on := 5, ground := Ground.phase }, { on := 6, ground := Ground.phase }, { on := 7, ground := Ground.phase }, { on := 8, ground := Ground.phase }, { on := 9, ground := Ground.phase }, { on := 10, ground := Ground.phase }, { on := 11, ground := Ground.phase }, { on := 12, ground := Ground.phase }, { on := 13, ground := Ground.phase }, { on := 14, ground := Ground.phase }, { on := 15, ground := Ground.phase }], guard := none }) (v := ?_) rfl (by kernel_rfl) (by kernel_rfl) (by kernel_rfl) (fun _ _ _ h => h) (Or.inl ⟨by rfl, ?_⟩) hHeld ?_
      rotate_left
      · intro w hSw
        try dsimp only at hSw
        go_simp
        try with_reducible rfl
      try simp only [Act.put, List.setIfInBounds_toArray, List.set_cons_zero, List.set_cons_succ]
      refine wpAnyH_done (by kernel_rfl) ?_ _
      have hbel := hHeld.1
      clear hHeld
      go_wp2_with fail
      go_ret
      exact ⟨rfl, hbel⟩
    · skip
      go_wp2_with (first | refine wpList_row_g rfl 34 _ rfl _ rfl _ _ _ _ jb Try.underlying34 rfl (by kernel_rfl) ?_ | refine wpList_row_g rfl 23 _ rfl _ rfl _ _ _ _ jy Try.underlying23 rfl (by kernel_rfl) ?_)
      refine (nB _ j3).mono ?_; rintro e wq0 ⟨rfl, hq0⟩
      replace jx := jx.below hq0 jx.lt; replace jy := jy.below hq0 jy.lt; replace jb := jb.below hq0 jb.lt; replace jc := jc.below hq0 jc.lt
      replace j2 := pts_ca j2 hq0; replace j3 := pts_ca j3 hq0; replace j4 := pts_ca j4 hq0
      replace j1 := j1.call hq0
      clear hq0
      go_wp2_with (first | refine wpList_row_g rfl 34 _ rfl _ rfl _ _ _ _ jb Try.underlying34 rfl (by kernel_rfl) ?_ | refine wpList_row_g rfl 23 _ rfl _ rfl _ _ _ _ jy Try.underlying23 rfl (by kernel_rfl) ?_)
      refine (eB _ j3).mono ?_; rintro e wq1 ⟨rfl, hq1⟩
      replace jx := jx.below hq1 jx.lt; replace jy := jy.below hq1 jy.lt; replace jb := jb.below hq1 jb.lt; replace jc := jc.below hq1 jc.lt
      replace j2 := pts_ca j2 hq1; replace j3 := pts_ca j3 hq1; replace j4 := pts_ca j4 hq1
      replace j1 := j1.call hq1
      clear hq1
      go_wp2_with (first | refine wpList_row_g rfl 34 _ rfl _ rfl _ _ _ _ jb Try.underlying34 rfl (by kernel_rfl) ?_)
      refine (zB _ j3).mono ?_; rintro e wq2 ⟨rfl, hq2⟩
      replace jx := jx.below hq2 jx.lt; replace jy := jy.below hq2 jy.lt; replace jb := jb.below hq2 jb.lt; replace jc := jc.below hq2 jc.lt
      replace j2 := pts_ca j2 hq2; replace j3 := pts_ca j3 hq2; replace j4 := pts_ca j4 hq2
      replace j1 := j1.call hq2
      clear hq2
      go_wp2_with (first | refine wpList_row_g rfl 34 _ rfl _ rfl _ _ _ _ jc Try.underlying34 rfl (by kernel_rfl) ?_ | refine wpList_row_g rfl 23 _ rfl _ rfl _ _ _ _ jy Try.underlying23 rfl (by kernel_rfl) ?_)
      refine (nC _ j4).mono ?_; rintro e wq3 ⟨rfl, hq3⟩
      replace jx := jx.below hq3 jx.lt; replace jy := jy.below hq3 jy.lt; replace jb := jb.below hq3 jb.lt; replace jc := jc.below hq3 jc.lt
      replace j2 := pts_ca j2 hq3; replace j3 := pts_ca j3 hq3; replace j4 := pts_ca j4 hq3
      replace j1 := j1.call hq3
      clear hq3
      go_wp2_with (first | refine wpList_row_g rfl 34 _ rfl _ rfl _ _ _ _ jc Try.underlying34 rfl (by kernel_rfl) ?_ | refine wpList_row_g rfl 23 _ rfl _ rfl _ _ _ _ jy Try.underlying23 rfl (by kernel_rfl) ?_)
      refine (eC _ j4).mono ?_; rintro e wq4 ⟨rfl, hq4⟩
      replace jx := jx.below hq4 jx.lt; replace jy := jy.below hq4 jy.lt; replace jb := jb.below hq4 jb.lt; replace jc := jc.below hq4 jc.lt
      replace j2 := pts_ca j2 hq4; replace j3 := pts_ca j3 hq4; replace j4 := pts_ca j4 hq4
      replace j1 := j1.call hq4
      clear hq4
      go_wp2_with (first | refine wpList_row_g rfl 34 _ rfl _ rfl _ _ _ _ jc Try.underlying34 rfl (by kernel_rfl) ?_)
      refine (zC _ j4).mono ?_; rintro e wq5 ⟨rfl, hq5⟩
      replace jx := jx.below hq5 jx.lt; replace jy := jy.below hq5 jy.lt; replace jb := jb.below hq5 jb.lt; replace jc := jc.below hq5 jc.lt
      replace j2 := pts_ca j2 hq5; replace j3 := pts_ca j3 hq5; replace j4 := pts_ca j4 hq5
      replace j1 := j1.call hq5
      clear hq5
      clear nA nB nC eA eB eC zA zB zC
      go_upto_region 17 with fail
      have ZZ := Lib.hid (s17_mk (W := wq5.drew) hq hi1 j1.drew (show Blk wq5.drew _ _ _ from jx) (show Pts wq5.drew wq5.drew.heap.size _ _ _ from j2))
      clear jx jy jb jc j1 j2 j3 j4
      refine wp_region_held_drew (S := fun w' => BI w w' ∧ Blk w' w.heap.size 34 (arA z (some ad) n c) ∧ Pts w' w'.heap.size (some ad) n l ∧ w'.cell? ⟨w.heap.size, 1, none⟩ = some (.slice (some ad) n c) ∧ ldT 34 (.pointer (some ⟨w.heap.size, 0, none⟩)) w' = some (arA z (some ad) n c) ∧ ldT 23 (.pointer (some (ad.add (i * 2)))) w' = some q.A) (by kernel_rfl) (ZZ.out) (fun hHeld => ?_)
      refine wpAnyH_take (i := 0) (oi := { dst := some 127, op := Op.load 34 (Operand.tmp 3), type := 34, pos := "law.go:60", after := #[], guard := none }) (v := ?_) rfl (by kernel_rfl) (by kernel_rfl) (by kernel_rfl) (fun _ _ _ h => h) (Or.inl ⟨by rfl, ?_⟩) hHeld ?_
      rotate_left
      · intro w hSw
        try dsimp only at hSw
        go_simp
        try with_reducible rfl
      try simp only [Act.put, List.setIfInBounds_toArray, List.set_cons_zero, List.set_cons_succ]
      refine wpAnyH_take (i := 1) (oi := { dst := some 128, op := Op.fieldAddr 34 (Operand.tmp 3) 1, type := 0, pos := "law.go:60", after := #[], guard := none }) (v := ?_) rfl (by kernel_rfl) (by kernel_rfl) (by kernel_rfl) (fun _ _ _ h => h) (Or.inl ⟨by rfl, ?_⟩) hHeld ?_
      rotate_left
      · intro w hSw
        try dsimp only at hSw
        go_simp
        try with_reducible rfl
      try simp only [Act.put, List.setIfInBounds_toArray, List.set_cons_zero, List.set_cons_succ]
      refine wpAnyH_take (i := 2) (oi := { dst := some 129, op := Op.load 32 (Operand.tmp 128), type := 32, pos := "law.go:60", after := #[{ on := 1, ground := Ground.data }], guard := none }) (v := ?_) rfl (by kernel_rfl) (by kernel_rfl) (by kernel_rfl) (fun _ _ _ h => h) (Or.inl ⟨by rfl, ?_⟩) hHeld ?_
      rotate_left
      · intro w hSw
        try dsimp only at hSw
        go_simp
        try with_reducible rfl
      try simp only [Act.put, List.setIfInBounds_toArray, List.set_cons_zero, List.set_cons_succ]
      refine wpAnyH_take (i := 3) (oi := { dst := some 130, op := Op.move (Operand.tmp 8), type := 3, pos := "law.go:60", after := #[], guard := none }) (v := ?_) rfl (by kernel_rfl) (by kernel_rfl) (by kernel_rfl) (fun _ _ _ h => h) (Or.inl ⟨by rfl, ?_⟩) hHeld ?_
      rotate_left
      · intro w hSw
        try dsimp only at hSw
        go_simp
        try with_reducible rfl
      try simp only [Act.put, List.setIfInBounds_toArray, List.set_cons_zero, List.set_cons_succ]
      refine wpAnyH_take (i := 4) (oi := { dst := some 131, op := Op.indexAddr 32 (Operand.tmp 129) (Operand.tmp 130), type := 0, pos := "law.go:60", after := #[{ on := 2, ground := Ground.data }, { on := 3, ground := Ground.data }], guard := none }) (v := ?_) rfl (by kernel_rfl) (by kernel_rfl) (by kernel_rfl) (fun _ _ _ h => h) (Or.inl ⟨by rfl, ?_⟩) hHeld ?_
      rotate_left
      · intro w hSw
        try dsimp only at hSw
        go_simp
        try with_reducible rfl
      try simp only [Act.put, List.setIfInBounds_toArray, List.set_cons_zero, List.set_cons_succ]
      refine wpAnyH_take (i := 5) (oi := { dst := some 132, op := Op.load 23 (Operand.tmp 131), type := 23, pos := "law.go:60", after := #[{ on := 4, ground := Ground.data }], guard := none }) (v := ?_) rfl (by kernel_rfl) (by kernel_rfl) (by kernel_rfl) (fun _ _ _ h => h) (Or.inl ⟨by rfl, ?_⟩) hHeld ?_
      rotate_left
      · intro w hSw
        try dsimp only at hSw
        go_simp
        try with_reducible rfl
      try simp only [Act.put, List.setIfInBounds_toArray, List.set_cons_zero, List.set_cons_succ]
      refine wpAnyH_ready (rs := [6]) (by kernel_rfl) (by simp) ?_
      refine AllReadyH.cons (o := { dst := some 133, op := Op.call { callee := Callee.value (Operand.func 25), args := #[Operand.tmp 127, Operand.tmp 132], argTypes := #[34, 23] }, type := 4, pos := "law.go:60", after := #[{ on := 0, ground := Ground.data }, { on := 5, ground := Ground.data }], guard := none }) rfl (fun K hK => ?_) (AllReadyH.nil)
      go_simp
      refine (eI _ hHeld.2.2.1).mono ?_; rintro e w_51 ⟨rfl, hb_51⟩
      try go_wp2_with fail
      refine hK.out _ _ (s17_on hq hi1 hHeld hb_51) (fun hHeld2 => ?_)
      clear hK K hHeld; have hHeld := hHeld2; clear hHeld2
      try simp only [Act.put, List.setIfInBounds_toArray, List.set_cons_zero, List.set_cons_succ]
      refine wpAnyH_take (i := 7) (oi := { dst := some 134, op := Op.move (Operand.tmp 133), type := 4, pos := "law.go:60", after := #[{ on := 6, ground := Ground.data }, { on := 6, ground := Ground.chain }], guard := none }) (v := ?_) rfl (by kernel_rfl) (by kernel_rfl) (by kernel_rfl) (fun _ _ _ h => h) (Or.inl ⟨by rfl, ?_⟩) hHeld ?_
      rotate_left
      · intro w hSw
        try dsimp only at hSw
        go_simp
        try with_reducible rfl
      try simp only [Act.put, List.setIfInBounds_toArray, List.set_cons_zero, List.set_cons_succ]
      refine wpAnyH_take (i := 8) (oi := { dst := some 135, op := Op.load 34 (Operand.tmp 3), type := 34, pos := "law.go:60", after := #[{ on := 7, ground := Ground.guard }], guard := some (7, true) }) (v := ?_) rfl (by kernel_rfl) (by kernel_rfl) (by kernel_rfl) (fun _ _ _ h => h) (Or.inl ⟨by rfl, ?_⟩) hHeld ?_
      rotate_left
      · intro w hSw
        try dsimp only at hSw
        go_simp
        try with_reducible rfl
      try simp only [Act.put, List.setIfInBounds_toArray, List.set_cons_zero, List.set_cons_succ]
      refine wpAnyH_take (i := 9) (oi := { dst := some 136, op := Op.fieldAddr 34 (Operand.tmp 3) 1, type := 0, pos := "law.go:60", after := #[{ on := 7, ground := Ground.guard }], guard := some (7, true) }) (v := ?_) rfl (by kernel_rfl) (by kernel_rfl) (by kernel_rfl) (fun _ _ _ h => h) (Or.inl ⟨by rfl, ?_⟩) hHeld ?_
      rotate_left
      · intro w hSw
        try dsimp only at hSw
        go_simp
        try with_reducible rfl
      try simp only [Act.put, List.setIfInBounds_toArray, List.set_cons_zero, List.set_cons_succ]
      refine wpAnyH_take (i := 10) (oi := { dst := some 137, op := Op.load 32 (Operand.tmp 136), type := 32, pos := "law.go:60", after := #[{ on := 9, ground := Ground.data }, { on := 7, ground := Ground.guard }], guard := some (7, true) }) (v := ?_) rfl (by kernel_rfl) (by kernel_rfl) (by kernel_rfl) (fun _ _ _ h => h) (Or.inl ⟨by rfl, ?_⟩) hHeld ?_
      rotate_left
      · intro w hSw
        try dsimp only at hSw
        go_simp
        try with_reducible rfl
      try simp only [Act.put, List.setIfInBounds_toArray, List.set_cons_zero, List.set_cons_succ]
      refine wpAnyH_take (i := 11) (oi := { dst := some 138, op := Op.move (Operand.tmp 8), type := 3, pos := "law.go:60", after := #[{ on := 7, ground := Ground.guard }], guard := some (7, true) }) (v := ?_) rfl (by kernel_rfl) (by kernel_rfl) (by kernel_rfl) (fun _ _ _ h => h) (Or.inl ⟨by rfl, ?_⟩) hHeld ?_
      rotate_left
      · intro w hSw
        try dsimp only at hSw
        go_simp
        try with_reducible rfl
      try simp only [Act.put, List.setIfInBounds_toArray, List.set_cons_zero, List.set_cons_succ]
      refine wpAnyH_take (i := 12) (oi := { dst := some 139, op := Op.indexAddr 32 (Operand.tmp 137) (Operand.tmp 138), type := 0, pos := "law.go:60", after := #[{ on := 10, ground := Ground.data }, { on := 11, ground := Ground.data }, { on := 7, ground := Ground.guard }], guard := some (7, true) }) (v := ?_) rfl (by kernel_rfl) (by kernel_rfl) (by kernel_rfl) (fun _ _ _ h => h) (Or.inl ⟨by rfl, ?_⟩) hHeld ?_
      rotate_left
      · intro w hSw
        try dsimp only at hSw
        go_simp
        try with_reducible rfl
      try simp only [Act.put, List.setIfInBounds_toArray, List.set_cons_zero, List.set_cons_succ]
      refine wpAnyH_take (i := 13) (oi := { dst := some 140, op := Op.load 23 (Operand.tmp 139), type := 23, pos := "law.go:60", after := #[{ on := 12, ground := Ground.data }, { on := 7, ground := Ground.guard }], guard := some (7, true) }) (v := ?_) rfl (by kernel_rfl) (by kernel_rfl) (by kernel_rfl) (fun _ _ _ h => h) (Or.inl ⟨by rfl, ?_⟩) hHeld ?_
      rotate_left
      · intro w hSw
        try dsimp only at hSw
        go_simp
        try with_reducible rfl
      try simp only [Act.put, List.setIfInBounds_toArray, List.set_cons_zero, List.set_cons_succ]
      refine wpAnyH_ready (rs := [14]) (by kernel_rfl) (by simp) ?_
      refine AllReadyH.cons (o := { dst := some 141, op := Op.call { callee := Callee.value (Operand.func 27), args := #[Operand.tmp 135, Operand.tmp 140], argTypes := #[34, 23] }, type := 4, pos := "law.go:60", after := #[{ on := 8, ground := Ground.data }, { on := 13, ground := Ground.data }, { on := 7, ground := Ground.chain }, { on := 7, ground := Ground.guard }], guard := some (7, true) }) rfl (fun K hK => ?_) (AllReadyH.nil)
      go_simp
      refine (nI _ hHeld.2.2.1).mono ?_; rintro e w_52 ⟨rfl, hb_52⟩
      try go_wp2_with fail
      refine hK.out _ _ (s17_on hq hi1 hHeld hb_52) (fun hHeld2 => ?_)
      clear hK K hHeld; have hHeld := hHeld2; clear hHeld2
      try simp only [Act.put, List.setIfInBounds_toArray, List.set_cons_zero, List.set_cons_succ]
      refine wpAnyH_take (i := 15) (oi := { dst := some 142, op := Op.pick (Operand.tmp 134) (Operand.tmp 141) (Operand.const (Value.bool false)), type := 4, pos := "law.go:60", after := #[{ on := 7, ground := Ground.data }, { on := 14, ground := Ground.data }], guard := none }) (v := ?_) rfl (by kernel_rfl) (by kernel_rfl) (by kernel_rfl) (fun _ _ _ h => h) (Or.inl ⟨by rfl, ?_⟩) hHeld ?_
      rotate_left
      · intro w hSw
        try dsimp only at hSw
        go_simp
        try with_reducible rfl
      try simp only [Act.put, List.setIfInBounds_toArray, List.set_cons_zero, List.set_cons_succ]
      refine wpAnyH_take (i := 16) (oi := { dst := some 6, op := Op.assign (Operand.tmp 142), type := 4, pos := "law.go:60", after := #[{ on := 15, ground := Ground.data }, { on := 14, ground := Ground.chain }, { on := 0, ground := Ground.phase }, { on := 1, ground := Ground.phase }, { on := 2, ground := Ground.phase }, { on := 3, ground := Ground.phase }, { on := 4, ground := Ground.phase }, { on := 5, ground := Ground.phase }, { on := 6, ground := Ground.phase }, { on := 7, ground := Ground.phase }, { on := 8, ground := Ground.phase }, { on := 9, ground := Ground.phase }, { on := 10, ground := Ground.phase }, { on := 11, ground := Ground.phase }, { on := 12, ground := Ground.phase }, { on := 13, ground := Ground.phase }, { on := 14, ground := Ground.phase }, { on := 15, ground := Ground.phase }], guard := none }) (v := ?_) rfl (by kernel_rfl) (by kernel_rfl) (by kernel_rfl) (fun _ _ _ h => h) (Or.inl ⟨by rfl, ?_⟩) hHeld ?_
      rotate_left
      · intro w hSw
        try dsimp only at hSw
        go_simp
        try with_reducible rfl
      try simp only [Act.put, List.setIfInBounds_toArray, List.set_cons_zero, List.set_cons_succ]
      refine wpAnyH_done (by kernel_rfl) ?_ _
      have hbel := hHeld.1
      clear hHeld
      go_wp2_with fail
      go_ret
      exact ⟨rfl, hbel⟩
theorem same_any (z : ByteArray) (A : Option Addr) (n c : Nat) (l : List P2) (p : P2) (t : Int) (w : World) (hz : z.size ≤ maxLen) (hR : Pts w w.heap.size A n l) (hm : n ≤ maxLen) (hnc : n ≤ c) (ht : 0 ≤ t ∧ t ≤ 255) :
    Calls Try.prog 5 #[arV z A n c, p.V, .int .u8 t] w fun e w' => e = .returned (.bool true) ∧ Below w.heap.size w w' := by
  cases h1 : smV [⟨z, A, n, c, l⟩]
  · exact same_early z A n c l p t w hz hR hm hnc ht (.inl h1)
  cases h2 : arOk z l
  · exact same_early z A n c l p t w hz hR hm hnc ht (.inr (.inl ⟨h1, h2⟩))
  cases h3 : p.ok
  · exact same_early z A n c l p t w hz hR hm hnc ht (.inr (.inr ⟨h1, h2, h3⟩))
  exact same_main z A n c l p t w hz hR hm hnc ht h1 h2 h3
end Go.Proofs.Ytoiccljmdplfgaa.Ar
