/-
  AreaTells, WALKED.
-/
import Derived.Test.YtoiccljmdplfgaaRaC
import Derived.Test.YtoiccljmdplfgaaAr9
namespace Go.Proofs.Ytoiccljmdplfgaa.Ar
open Go.ChangeShapes Go.WideShapes Go.ChangeAt Go.RowKit Go.Shelf
open Go.Proofs.Ytoiccljmdplfgaa
open Go.Proofs.Ytoiccljmdplfgaa.Wd
open Go.Proofs.Ytoiccljmdplfgaa.Pl
open Go.Proofs.Ytoiccljmdplfgaa.Nv
open Go.Proofs.Ytoiccljmdplfgaa.Ld
set_option linter.unusedVariables false
set_option linter.unusedSimpArgs false
attribute [local go_sem ↓] Go.wp_at_zero Go.wp_at_succ
attribute [local go_sem ↓] ldA_sem ldP_sem
attribute [local go_sem] ldSem_run
theorem at_mk {w W : World} {n c : Nat} {z : ByteArray} {A : Option Addr} {p : P2} {l : List P2} (iv : BI w W) (hx : Blk W w.heap.size 34 (arA z A n c)) (hy : Blk W (w.heap.size + 1) 23 p.A) (hr : Pts W W.heap.size A n l) :
    BI w W ∧ Blk W w.heap.size 34 (arA z A n c) ∧ Blk W (w.heap.size + 1) 23 p.A ∧ Pts W W.heap.size A n l ∧ ldT 34 (.pointer (some ⟨w.heap.size, 0, none⟩)) W = some (arA z A n c) ∧ ldT 23 (.pointer (some ⟨w.heap.size + 1, 0, none⟩)) W = some p.A := ⟨iv, hx, hy, hr, ldT_of (ld_seg hx Try.underlying34 rfl (by kernel_rfl) (by kernel_rfl)), ld_b hy⟩
theorem at_on {w W W2 : World} {n c : Nat} {z : ByteArray} {A : Option Addr} {p : P2} {l : List P2} (h : BI w W ∧ Blk W w.heap.size 34 (arA z A n c) ∧ Blk W (w.heap.size + 1) 23 p.A ∧ Pts W W.heap.size A n l ∧ ldT 34 (.pointer (some ⟨w.heap.size, 0, none⟩)) W = some (arA z A n c) ∧ ldT 23 (.pointer (some ⟨w.heap.size + 1, 0, none⟩)) W = some p.A) (hb : Below W.heap.size W W2) :
    BI w W2 ∧ Blk W2 w.heap.size 34 (arA z A n c) ∧ Blk W2 (w.heap.size + 1) 23 p.A ∧ Pts W2 W2.heap.size A n l ∧ ldT 34 (.pointer (some ⟨w.heap.size, 0, none⟩)) W2 = some (arA z A n c) ∧ ldT 23 (.pointer (some ⟨w.heap.size + 1, 0, none⟩)) W2 = some p.A := by
  obtain ⟨iv, hx, hy, hr, _⟩ := h
  exact at_mk (iv.call hb) (hx.below hb hx.lt) (hy.below hb hy.lt) (pts_ca' hr hb)
theorem ar_info : (Try.prog.info? 34).map (fun i => (i.zero, i.size, i.bytes)) = some (some (.agg #[.string ByteArray.empty, .slice none 0 0]), 2, 40) := by kernel_rfl
theorem flatA_app (l m : List Ae) : flatA (l ++ m) = flatA l ++ flatA m := by
  induction l with
  | nil => rfl
  | cons r t ih => show r.C.toList ++ flatA (t ++ m) = (r.C.toList ++ flatA t) ++ flatA m; rw [ih, List.append_assoc]
theorem flatA_one (l : List Ae) : ∀ u ∈ flatA l, u.oneCell' = true := by
  induction l with
  | nil => intro u hu; cases hu
  | cons r t ih =>
    intro u hu
    rcases List.mem_append.1 (show u ∈ r.C.toList ++ flatA t from hu) with h | h
    · simp at h; rcases h with rfl | rfl <;> rfl
    · exact ih u h
theorem own_xA (w : World) {base : Nat} (hb : base ≤ w.heap.size) : (w.alloc (.cells (#[] : Array Value) 34)).ownsRow base 34 2 (.slice (some ⟨w.heap.size, 0, none⟩) 0 0) 0 [] :=
  World.ownsRow_lit (base := base) (e := 34) (size := 2) w (#[] : Array Value) 0 hb (by unfold maxLen; omega) rfl
theorem one_reads {w : World} {g : Nat} {t : TypeId} {n c : Nat} {z : ByteArray} {A : Option Addr} {l : List P2} (x : Blk w g t (arA z A n c)) : Reads w w.heap.size 2 (some ⟨g, 0, none⟩) 1 (flatA [⟨z, A, n, c, l⟩]) := by
  refine ⟨rfl, fun _ => ⟨_, rfl, x.lt, fun j u hu => ?_⟩⟩
  have e : (⟨g, 0, none⟩ : Addr).add j = ⟨g, j, none⟩ := by unfold Addr.add; split <;> simp_all
  rw [e, x.cell, ← Array.getElem?_toList]; exact hu
theorem ars_app {w W : World} {base N nL c9 g9 : Nat} {AL : Option Addr} {L : List Ae} {a : Ae} (hN : nL + 1 = N) (own : W.ownsRow base 34 2 (.slice (some ⟨g9, 0, none⟩) N c9) N (flatA (L ++ [a]))) (hL : Ars w w.heap.size AL nL L)
    (ha : Pts w w.heap.size a.A a.n a.l ∧ a.z.size ≤ maxLen ∧ a.n ≤ maxLen) (iv : BI w W) : Ars W W.heap.size (some ⟨g9, 0, none⟩) N (L ++ [a]) := by
  refine ⟨by rw [List.length_append, hL.len, ← hN]; rfl, Reads.of_own own, fun b hb => ?_⟩
  rcases List.mem_append.1 hb with h | h
  · exact ⟨Pts.more ((hL.p b h).1.below iv.b) iv.b.size, (hL.p b h).2⟩
  · obtain rfl := List.mem_singleton.1 h
    exact ⟨Pts.more (ha.1.below iv.b) iv.b.size, ha.2⟩
set_option maxRecDepth 100000 in
set_option maxHeartbeats 12800000 in
theorem tells_small (z : ByteArray) (A : Option Addr) (n c : Nat) (l : List P2) (p : P2) (AL : Option Addr) (nL cL : Nat) (L : List Ae) (w : World) (hz : z.size ≤ maxLen) (hR : Pts w w.heap.size A n l) (hm : n ≤ maxLen) (hL : Ars w w.heap.size AL nL L) (hby : nL * 40 ≤ 140737488351232) (hs : smV (L ++ [⟨z, A, n, c, l⟩]) = false) :
    Calls Try.prog 4 #[arV z A n c, p.V, .slice AL nL cL] w fun e w' => e = .returned (.bool true) ∧ Below w.heap.size w w' := by
  have i1 := ((BI.start w).alloc (.cells (arA z A n c) 34)).alloc (.cells p.A 23)
  have x1 := (Blk.new w 34 (arA z A n c)).alloc (.cells p.A 23)
  have y1 := blk_at (w.alloc (.cells (arA z A n c) 34)) 23 p.A (sz1 _ _ rfl)
  have hA0 : Pts w w.heap.size A n l ∧ z.size ≤ maxLen ∧ n ≤ maxLen := ⟨hR, hz, hm⟩
  have hsm := fun (W : World) (A9 : Option Addr) (N c9 : Nat) (h : Ars W W.heap.size A9 N (L ++ [⟨z, A, n, c, l⟩])) => small_any A9 N c9 (L ++ [⟨z, A, n, c, l⟩]) W h
  rw [hs] at hsm
  simp only [Bool.false_eq_true, if_false] at hsm
  obtain ⟨i0i, hi0', hz0, hz1, hz2⟩ := info_parts ar_info
  have HI := Lib.hid hi0'
  have hnm : nL + 1 ≤ 3518437208884 := by omega
  replace hsm := fun (W : World) (A9 : Option Addr) (c9 : Nat) (h : Ars W W.heap.size A9 (nL + 1) (L ++ [⟨z, A, n, c, l⟩])) => hsm W A9 (nL + 1) c9 h (by unfold maxLen; omega)
  clear hi0' hs
  go_enter Try.func4, Try.ntmps4
  go_upto_region 1 with fail
  obtain ⟨W0, hW0⟩ : ∃ W0 : World, W0 = (w.alloc (.cells (arA z A n c) 34)).alloc (.cells p.A 23) := ⟨_, rfl⟩
  rw [← hW0] at i1 x1 y1
  rw [← hW0]
  clear hW0
  have x0 : Blk W0.drew w.heap.size 34 (arA z A n c) := x1
  have y0 : Blk W0.drew (w.heap.size + 1) 23 p.A := y1
  have iv0 : BI w W0.drew := i1.drew
  clear x1 y1 i1
  refine wp_region_held_drew (S := fun w' => Blk w' w.heap.size 34 (arA z A n c) ∧ ldT 34 (.pointer (some ⟨w.heap.size, 0, none⟩)) w' = some (arA z A n c)) (by kernel_rfl) (⟨x0, ldT_of (ld_seg x0 Try.underlying34 rfl (by kernel_rfl) (by kernel_rfl))⟩) (fun hHeld => ?_)
  refine wpAnyH_take (i := 1) (oi := { dst := some 12, op := Op.move (Operand.tmp 2), type := 35, pos := "law.go:33", after := #[], guard := none }) (v := ?_) rfl (by kernel_rfl) (by kernel_rfl) (by kernel_rfl) (fun _ _ _ h => h) (Or.inl ⟨by rfl, ?_⟩) hHeld ?_
  rotate_left
  · intro w hSw
    try dsimp only at hSw
    go_simp
    try with_reducible rfl
  try simp only [Act.put, List.setIfInBounds_toArray, List.set_cons_zero, List.set_cons_succ]
  refine wpAnyH_take (i := 3) (oi := { dst := some 14, op := Op.load 34 (Operand.tmp 3), type := 34, pos := "law.go:33", after := #[], guard := none }) (v := ?_) rfl (by kernel_rfl) (by kernel_rfl) (by kernel_rfl) (fun _ _ _ h => h) (Or.inl ⟨by rfl, ?_⟩) hHeld ?_
  rotate_left
  · intro w hSw
    try dsimp only at hSw
    go_simp
    try with_reducible rfl
  try simp only [Act.put, List.setIfInBounds_toArray, List.set_cons_zero, List.set_cons_succ]
  refine wpAnyH_ready (rs := [0, 4]) (by kernel_rfl) (by simp) ?_
  refine AllReadyH.cons (o := { dst := some 11, op := Op.buildSlice 35 0 #[], type := 35, pos := "law.go:33", after := #[], guard := none }) rfl (fun K hK => ?_) (AllReadyH.cons (o := { dst := some 15, op := Op.buildSlice 35 1 #[(0, Operand.tmp 14)], type := 35, pos := "law.go:33", after := #[{ on := 3, ground := Ground.data }], guard := none }) rfl (fun K hK => ?_) (AllReadyH.nil))
  · skip
    go_simp
    have own_1 := own_xA (base := W0.drew.heap.size) (W0.drew) (Nat.le_refl W0.drew.heap.size)
    have iv_1 := iv0.alloc (.cells (#[] : Array Value) 34)
    have x_1 := x0.alloc (.cells (#[] : Array Value) 34)
    have y_1 := y0.alloc (.cells (#[] : Array Value) 34)
    have sz_1 : W0.drew.heap.size ≤ ((W0.drew).alloc (.cells (#[] : Array Value) 34)).heap.size := by rw [sz1 _ _ rfl]; exact Nat.le_succ_of_le (Nat.le_refl W0.drew.heap.size)
    refine hK.out _ _ (⟨x_1, ldT_of (ld_seg x_1 Try.underlying34 rfl (by kernel_rfl) (by kernel_rfl))⟩) (fun hHeld2 => ?_)
    clear hK K hHeld; have hHeld := hHeld2; clear hHeld2
    try simp only [Act.put, List.setIfInBounds_toArray, List.set_cons_zero, List.set_cons_succ]
    refine wpAnyH_ready (rs := [2, 4]) (by kernel_rfl) (by simp) ?_
    refine AllReadyH.cons (o := { dst := some 13, op := Op.call { callee := Callee.builtin Builtin.append, args := #[Operand.tmp 11, Operand.tmp 12], argTypes := #[35, 35] }, type := 35, pos := "law.go:33", after := #[{ on := 0, ground := Ground.data }, { on := 1, ground := Ground.data }], guard := none }) rfl (fun K hK => ?_) (AllReadyH.cons (o := { dst := some 15, op := Op.buildSlice 35 1 #[(0, Operand.tmp 14)], type := 35, pos := "law.go:33", after := #[{ on := 3, ground := Ground.data }], guard := none }) rfl (fun K hK => ?_) (AllReadyH.nil))
    · skip
      refine wp_append_any _ (.tmp 11) (.tmp 12) 35 rfl W0.drew.heap.size 34 i0i _ 2 40 Try.underlying35 HI.out hz0 hz1 hz2 rfl (by decide) _ 0 _ rfl own_1 _ _ nL cL (flatA L) rfl (hL.below iv_1.b).r (flatA_one L) (by unfold maxLen; omega) (by omega) sz_1 ?_
      intro v_2 W_2 own_2 hg_2 hat_2
      have iv_2 : BI w W_2 := Below.grown iv_1.b hg_2 iv_1.b.size (fun g hg => Nat.le_trans iv0.b.size (own_lt9 own_1 g hg).1)
      have x_2 := x_1.grown hg_2 (fun e => by have q1 := (own_lt9 own_1 _ e.symm).1; have q2 := x0.lt; omega)
      have y_2 := y_1.grown hg_2 (fun e => by have q1 := (own_lt9 own_1 _ e.symm).1; have q2 := y0.lt; omega)
      have sz_2 : W0.drew.heap.size ≤ W_2.heap.size := Nat.le_trans sz_1 hg_2.size
      refine hK.out _ _ (⟨x_2, ldT_of (ld_seg x_2 Try.underlying34 rfl (by kernel_rfl) (by kernel_rfl))⟩) (fun hHeld2 => ?_)
      clear hK K hHeld; have hHeld := hHeld2; clear hHeld2
      try simp only [Act.put, List.setIfInBounds_toArray, List.set_cons_zero, List.set_cons_succ]
      refine wpAnyH_ready (rs := [4]) (by kernel_rfl) (by simp) ?_
      refine AllReadyH.cons (o := { dst := some 15, op := Op.buildSlice 35 1 #[(0, Operand.tmp 14)], type := 35, pos := "law.go:33", after := #[{ on := 3, ground := Ground.data }], guard := none }) rfl (fun K hK => ?_) (AllReadyH.nil)
      go_simp
      have q_3 := Blk.new (W_2) 34 (arA z A n c)
      have own_3 := own_2.alloc (.cells (arA z A n c) 34)
      have iv_3 := iv_2.alloc (.cells (arA z A n c) 34)
      have x_3 := x_2.alloc (.cells (arA z A n c) 34)
      have y_3 := y_2.alloc (.cells (arA z A n c) 34)
      have sz_3 : W0.drew.heap.size ≤ ((W_2).alloc (.cells (arA z A n c) 34)).heap.size := by rw [sz1 _ _ rfl]; exact Nat.le_succ_of_le sz_2
      refine hK.out _ _ (⟨x_3, ldT_of (ld_seg x_3 Try.underlying34 rfl (by kernel_rfl) (by kernel_rfl))⟩) (fun hHeld2 => ?_)
      clear hK K hHeld; have hHeld := hHeld2; clear hHeld2
      try simp only [Act.put, List.setIfInBounds_toArray, List.set_cons_zero, List.set_cons_succ]
      refine wpAnyH_ready (rs := [5]) (by kernel_rfl) (by simp) ?_
      refine AllReadyH.cons (o := { dst := some 16, op := Op.call { callee := Callee.builtin Builtin.append, args := #[Operand.tmp 13, Operand.tmp 15], argTypes := #[35, 35] }, type := 35, pos := "law.go:33", after := #[{ on := 2, ground := Ground.data }, { on := 4, ground := Ground.data }, { on := 2, ground := Ground.chain }], guard := none }) rfl (fun K hK => ?_) (AllReadyH.nil)
      refine wp_append_any _ (.tmp 13) (.tmp 15) 35 rfl W0.drew.heap.size 34 i0i _ 2 40 Try.underlying35 HI.out hz0 hz1 hz2 rfl (by decide) _ (0 + nL) _ rfl own_3 _ _ 1 1 (flatA [⟨z, A, n, c, l⟩]) rfl (one_reads q_3) (flatA_one _) (by unfold maxLen; omega) (by omega) sz_3 ?_
      intro v_4 W_4 own_4 hg_4 hat_4
      have iv_4 : BI w W_4 := Below.grown iv_3.b hg_4 iv_3.b.size (fun g hg => Nat.le_trans iv0.b.size (own_lt9 own_3 g hg).1)
      have x_4 := x_3.grown hg_4 (fun e => by have q1 := (own_lt9 own_3 _ e.symm).1; have q2 := x0.lt; omega)
      have y_4 := y_3.grown hg_4 (fun e => by have q1 := (own_lt9 own_3 _ e.symm).1; have q2 := y0.lt; omega)
      have sz_4 : W0.drew.heap.size ≤ W_4.heap.size := Nat.le_trans sz_3 hg_4.size
      rw [List.nil_append, ← flatA_app, Nat.zero_add] at own_4
      obtain ⟨g9, c9, e9, hc9⟩ := own_formg own_4 (by omega)
      subst e9
      refine hK.out _ _ (⟨x_4, ldT_of (ld_seg x_4 Try.underlying34 rfl (by kernel_rfl) (by kernel_rfl))⟩) (fun hHeld2 => ?_)
      clear hK K hHeld; have hHeld := hHeld2; clear hHeld2
      try simp only [Act.put, List.setIfInBounds_toArray, List.set_cons_zero, List.set_cons_succ]
      refine wpAnyH_ready (rs := [6]) (by kernel_rfl) (by simp) ?_
      refine AllReadyH.cons (o := { dst := some 17, op := Op.call { callee := Callee.value (Operand.func 19), args := #[Operand.tmp 16], argTypes := #[35] }, type := 3, pos := "law.go:33", after := #[{ on := 5, ground := Ground.data }, { on := 5, ground := Ground.chain }], guard := none }) rfl (fun K hK => ?_) (AllReadyH.nil)
      go_simp
      refine (hsm _ _ _ (ars_app rfl own_4 hL hA0 iv_4)).mono ?_; rintro e w_5 ⟨rfl, hb_5⟩
      have iv_5 := iv_4.call hb_5; have x_5 := x_4.below hb_5 x_4.lt; have y_5 := y_4.below hb_5 y_4.lt
      try go_wp2_with fail
      refine hK.out _ _ (⟨x_5, ldT_of (ld_seg x_5 Try.underlying34 rfl (by kernel_rfl) (by kernel_rfl))⟩) (fun hHeld2 => ?_)
      clear hK K hHeld; have hHeld := hHeld2; clear hHeld2
      try simp only [Act.put, List.setIfInBounds_toArray, List.set_cons_zero, List.set_cons_succ]
      refine wpAnyH_take (i := 7) (oi := { dst := some 18, op := Op.binOp BinOp.eql 3 (Operand.tmp 17) (Operand.const (Value.int IntKind.i64 0)) 3, type := 4, pos := "law.go:33", after := #[{ on := 6, ground := Ground.data }], guard := none }) (v := ?_) rfl (by kernel_rfl) (by kernel_rfl) (by kernel_rfl) (fun _ _ _ h => h) (Or.inl ⟨by rfl, ?_⟩) hHeld ?_
      rotate_left
      · intro w hSw
        try dsimp only at hSw
        go_simp
        try with_reducible rfl
      try simp only [Act.put, List.setIfInBounds_toArray, List.set_cons_zero, List.set_cons_succ]
      refine wpAnyH_done (by kernel_rfl) ?_ _
      clear hHeld
      go_wp2_with fail
      refine (lives44_any _).mono ?_; rintro e w5 ⟨rfl, hb5⟩
      have i5 := iv_5.call hb5
      go_wp2_with fail
      go_ret
      exact ⟨rfl, i5⟩
    · skip
      go_simp
      have q_6 := blk_at ((W0.drew).alloc (.cells (#[] : Array Value) 34)) 34 (arA z A n c) (sz1 W0.drew _ rfl)
      have own_6 := own_1.alloc (.cells (arA z A n c) 34)
      have iv_6 := iv_1.alloc (.cells (arA z A n c) 34)
      have x_6 := x_1.alloc (.cells (arA z A n c) 34)
      have y_6 := y_1.alloc (.cells (arA z A n c) 34)
      have sz_6 : W0.drew.heap.size ≤ (((W0.drew).alloc (.cells (#[] : Array Value) 34)).alloc (.cells (arA z A n c) 34)).heap.size := by rw [sz1 _ _ rfl]; exact Nat.le_succ_of_le sz_1
      refine hK.out _ _ (⟨x_6, ldT_of (ld_seg x_6 Try.underlying34 rfl (by kernel_rfl) (by kernel_rfl))⟩) (fun hHeld2 => ?_)
      clear hK K hHeld; have hHeld := hHeld2; clear hHeld2
      try simp only [Act.put, List.setIfInBounds_toArray, List.set_cons_zero, List.set_cons_succ]
      refine wpAnyH_ready (rs := [2]) (by kernel_rfl) (by simp) ?_
      refine AllReadyH.cons (o := { dst := some 13, op := Op.call { callee := Callee.builtin Builtin.append, args := #[Operand.tmp 11, Operand.tmp 12], argTypes := #[35, 35] }, type := 35, pos := "law.go:33", after := #[{ on := 0, ground := Ground.data }, { on := 1, ground := Ground.data }], guard := none }) rfl (fun K hK => ?_) (AllReadyH.nil)
      refine wp_append_any _ (.tmp 11) (.tmp 12) 35 rfl W0.drew.heap.size 34 i0i _ 2 40 Try.underlying35 HI.out hz0 hz1 hz2 rfl (by decide) _ 0 _ rfl own_6 _ _ nL cL (flatA L) rfl (hL.below iv_6.b).r (flatA_one L) (by unfold maxLen; omega) (by omega) sz_6 ?_
      intro v_7 W_7 own_7 hg_7 hat_7
      have iv_7 : BI w W_7 := Below.grown iv_6.b hg_7 iv_6.b.size (fun g hg => Nat.le_trans iv0.b.size (own_lt9 own_6 g hg).1)
      have x_7 := x_6.grown hg_7 (fun e => by have q1 := (own_lt9 own_6 _ e.symm).1; have q2 := x0.lt; omega)
      have y_7 := y_6.grown hg_7 (fun e => by have q1 := (own_lt9 own_6 _ e.symm).1; have q2 := y0.lt; omega)
      have q_7 := q_6.grown hg_7 (fun e => by first | (have e2 : some (W0.drew.heap.size + 1) = some W0.drew.heap.size := e; injection e2; omega) | (have e2 : some W0.drew.heap.size = some (W0.drew.heap.size + 1) := e; injection e2; omega))
      have sz_7 : W0.drew.heap.size ≤ W_7.heap.size := Nat.le_trans sz_6 hg_7.size
      refine hK.out _ _ (⟨x_7, ldT_of (ld_seg x_7 Try.underlying34 rfl (by kernel_rfl) (by kernel_rfl))⟩) (fun hHeld2 => ?_)
      clear hK K hHeld; have hHeld := hHeld2; clear hHeld2
      try simp only [Act.put, List.setIfInBounds_toArray, List.set_cons_zero, List.set_cons_succ]
      refine wpAnyH_ready (rs := [5]) (by kernel_rfl) (by simp) ?_
      refine AllReadyH.cons (o := { dst := some 16, op := Op.call { callee := Callee.builtin Builtin.append, args := #[Operand.tmp 13, Operand.tmp 15], argTypes := #[35, 35] }, type := 35, pos := "law.go:33", after := #[{ on := 2, ground := Ground.data }, { on := 4, ground := Ground.data }, { on := 2, ground := Ground.chain }], guard := none }) rfl (fun K hK => ?_) (AllReadyH.nil)
      refine wp_append_any _ (.tmp 13) (.tmp 15) 35 rfl W0.drew.heap.size 34 i0i _ 2 40 Try.underlying35 HI.out hz0 hz1 hz2 rfl (by decide) _ (0 + nL) _ rfl own_7 _ _ 1 1 (flatA [⟨z, A, n, c, l⟩]) rfl (one_reads q_7) (flatA_one _) (by unfold maxLen; omega) (by omega) sz_7 ?_
      intro v_8 W_8 own_8 hg_8 hat_8
      have iv_8 : BI w W_8 := Below.grown iv_7.b hg_8 iv_7.b.size (fun g hg => Nat.le_trans iv0.b.size (own_lt9 own_7 g hg).1)
      have x_8 := x_7.grown hg_8 (fun e => by have q1 := (own_lt9 own_7 _ e.symm).1; have q2 := x0.lt; omega)
      have y_8 := y_7.grown hg_8 (fun e => by have q1 := (own_lt9 own_7 _ e.symm).1; have q2 := y0.lt; omega)
      have sz_8 : W0.drew.heap.size ≤ W_8.heap.size := Nat.le_trans sz_7 hg_8.size
      rw [List.nil_append, ← flatA_app, Nat.zero_add] at own_8
      obtain ⟨g9, c9, e9, hc9⟩ := own_formg own_8 (by omega)
      subst e9
      refine hK.out _ _ (⟨x_8, ldT_of (ld_seg x_8 Try.underlying34 rfl (by kernel_rfl) (by kernel_rfl))⟩) (fun hHeld2 => ?_)
      clear hK K hHeld; have hHeld := hHeld2; clear hHeld2
      try simp only [Act.put, List.setIfInBounds_toArray, List.set_cons_zero, List.set_cons_succ]
      refine wpAnyH_ready (rs := [6]) (by kernel_rfl) (by simp) ?_
      refine AllReadyH.cons (o := { dst := some 17, op := Op.call { callee := Callee.value (Operand.func 19), args := #[Operand.tmp 16], argTypes := #[35] }, type := 3, pos := "law.go:33", after := #[{ on := 5, ground := Ground.data }, { on := 5, ground := Ground.chain }], guard := none }) rfl (fun K hK => ?_) (AllReadyH.nil)
      go_simp
      refine (hsm _ _ _ (ars_app rfl own_8 hL hA0 iv_8)).mono ?_; rintro e w_9 ⟨rfl, hb_9⟩
      have iv_9 := iv_8.call hb_9; have x_9 := x_8.below hb_9 x_8.lt; have y_9 := y_8.below hb_9 y_8.lt
      try go_wp2_with fail
      refine hK.out _ _ (⟨x_9, ldT_of (ld_seg x_9 Try.underlying34 rfl (by kernel_rfl) (by kernel_rfl))⟩) (fun hHeld2 => ?_)
      clear hK K hHeld; have hHeld := hHeld2; clear hHeld2
      try simp only [Act.put, List.setIfInBounds_toArray, List.set_cons_zero, List.set_cons_succ]
      refine wpAnyH_take (i := 7) (oi := { dst := some 18, op := Op.binOp BinOp.eql 3 (Operand.tmp 17) (Operand.const (Value.int IntKind.i64 0)) 3, type := 4, pos := "law.go:33", after := #[{ on := 6, ground := Ground.data }], guard := none }) (v := ?_) rfl (by kernel_rfl) (by kernel_rfl) (by kernel_rfl) (fun _ _ _ h => h) (Or.inl ⟨by rfl, ?_⟩) hHeld ?_
      rotate_left
      · intro w hSw
        try dsimp only at hSw
        go_simp
        try with_reducible rfl
      try simp only [Act.put, List.setIfInBounds_toArray, List.set_cons_zero, List.set_cons_succ]
      refine wpAnyH_done (by kernel_rfl) ?_ _
      clear hHeld
      go_wp2_with fail
      refine (lives44_any _).mono ?_; rintro e w5 ⟨rfl, hb5⟩
      have i5 := iv_9.call hb5
      go_wp2_with fail
      go_ret
      exact ⟨rfl, i5⟩
  · skip
    go_simp
    have q_10 := Blk.new (W0.drew) 34 (arA z A n c)
    have iv_10 := iv0.alloc (.cells (arA z A n c) 34)
    have x_10 := x0.alloc (.cells (arA z A n c) 34)
    have y_10 := y0.alloc (.cells (arA z A n c) 34)
    have sz_10 : W0.drew.heap.size ≤ ((W0.drew).alloc (.cells (arA z A n c) 34)).heap.size := by rw [sz1 _ _ rfl]; exact Nat.le_succ_of_le (Nat.le_refl W0.drew.heap.size)
    refine hK.out _ _ (⟨x_10, ldT_of (ld_seg x_10 Try.underlying34 rfl (by kernel_rfl) (by kernel_rfl))⟩) (fun hHeld2 => ?_)
    clear hK K hHeld; have hHeld := hHeld2; clear hHeld2
    try simp only [Act.put, List.setIfInBounds_toArray, List.set_cons_zero, List.set_cons_succ]
    refine wpAnyH_ready (rs := [0]) (by kernel_rfl) (by simp) ?_
    refine AllReadyH.cons (o := { dst := some 11, op := Op.buildSlice 35 0 #[], type := 35, pos := "law.go:33", after := #[], guard := none }) rfl (fun K hK => ?_) (AllReadyH.nil)
    go_simp
    have own_11 := own_xA (base := W0.drew.heap.size) ((W0.drew).alloc (.cells (arA z A n c) 34)) sz_10
    rw [sz1 W0.drew _ rfl] at own_11
    have q_11 := q_10.alloc (.cells (#[] : Array Value) 34)
    have iv_11 := iv_10.alloc (.cells (#[] : Array Value) 34)
    have x_11 := x_10.alloc (.cells (#[] : Array Value) 34)
    have y_11 := y_10.alloc (.cells (#[] : Array Value) 34)
    have sz_11 : W0.drew.heap.size ≤ (((W0.drew).alloc (.cells (arA z A n c) 34)).alloc (.cells (#[] : Array Value) 34)).heap.size := by rw [sz1 _ _ rfl]; exact Nat.le_succ_of_le sz_10
    refine hK.out _ _ (⟨x_11, ldT_of (ld_seg x_11 Try.underlying34 rfl (by kernel_rfl) (by kernel_rfl))⟩) (fun hHeld2 => ?_)
    clear hK K hHeld; have hHeld := hHeld2; clear hHeld2
    try simp only [Act.put, List.setIfInBounds_toArray, List.set_cons_zero, List.set_cons_succ]
    refine wpAnyH_ready (rs := [2]) (by kernel_rfl) (by simp) ?_
    refine AllReadyH.cons (o := { dst := some 13, op := Op.call { callee := Callee.builtin Builtin.append, args := #[Operand.tmp 11, Operand.tmp 12], argTypes := #[35, 35] }, type := 35, pos := "law.go:33", after := #[{ on := 0, ground := Ground.data }, { on := 1, ground := Ground.data }], guard := none }) rfl (fun K hK => ?_) (AllReadyH.nil)
    refine wp_append_any _ (.tmp 11) (.tmp 12) 35 rfl W0.drew.heap.size 34 i0i _ 2 40 Try.underlying35 HI.out hz0 hz1 hz2 rfl (by decide) _ 0 _ rfl own_11 _ _ nL cL (flatA L) rfl (hL.below iv_11.b).r (flatA_one L) (by unfold maxLen; omega) (by omega) sz_11 ?_
    intro v_12 W_12 own_12 hg_12 hat_12
    have iv_12 : BI w W_12 := Below.grown iv_11.b hg_12 iv_11.b.size (fun g hg => Nat.le_trans iv0.b.size (own_lt9 own_11 g hg).1)
    have x_12 := x_11.grown hg_12 (fun e => by have q1 := (own_lt9 own_11 _ e.symm).1; have q2 := x0.lt; omega)
    have y_12 := y_11.grown hg_12 (fun e => by have q1 := (own_lt9 own_11 _ e.symm).1; have q2 := y0.lt; omega)
    have q_12 := q_11.grown hg_12 (fun e => by first | (have e2 : some (W0.drew.heap.size + 1) = some W0.drew.heap.size := e; injection e2; omega) | (have e2 : some W0.drew.heap.size = some (W0.drew.heap.size + 1) := e; injection e2; omega))
    have sz_12 : W0.drew.heap.size ≤ W_12.heap.size := Nat.le_trans sz_11 hg_12.size
    refine hK.out _ _ (⟨x_12, ldT_of (ld_seg x_12 Try.underlying34 rfl (by kernel_rfl) (by kernel_rfl))⟩) (fun hHeld2 => ?_)
    clear hK K hHeld; have hHeld := hHeld2; clear hHeld2
    try simp only [Act.put, List.setIfInBounds_toArray, List.set_cons_zero, List.set_cons_succ]
    refine wpAnyH_ready (rs := [5]) (by kernel_rfl) (by simp) ?_
    refine AllReadyH.cons (o := { dst := some 16, op := Op.call { callee := Callee.builtin Builtin.append, args := #[Operand.tmp 13, Operand.tmp 15], argTypes := #[35, 35] }, type := 35, pos := "law.go:33", after := #[{ on := 2, ground := Ground.data }, { on := 4, ground := Ground.data }, { on := 2, ground := Ground.chain }], guard := none }) rfl (fun K hK => ?_) (AllReadyH.nil)
    refine wp_append_any _ (.tmp 13) (.tmp 15) 35 rfl W0.drew.heap.size 34 i0i _ 2 40 Try.underlying35 HI.out hz0 hz1 hz2 rfl (by decide) _ (0 + nL) _ rfl own_12 _ _ 1 1 (flatA [⟨z, A, n, c, l⟩]) rfl (one_reads q_12) (flatA_one _) (by unfold maxLen; omega) (by omega) sz_12 ?_
    intro v_13 W_13 own_13 hg_13 hat_13
    have iv_13 : BI w W_13 := Below.grown iv_12.b hg_13 iv_12.b.size (fun g hg => Nat.le_trans iv0.b.size (own_lt9 own_12 g hg).1)
    have x_13 := x_12.grown hg_13 (fun e => by have q1 := (own_lt9 own_12 _ e.symm).1; have q2 := x0.lt; omega)
    have y_13 := y_12.grown hg_13 (fun e => by have q1 := (own_lt9 own_12 _ e.symm).1; have q2 := y0.lt; omega)
    have sz_13 : W0.drew.heap.size ≤ W_13.heap.size := Nat.le_trans sz_12 hg_13.size
    rw [List.nil_append, ← flatA_app, Nat.zero_add] at own_13
    obtain ⟨g9, c9, e9, hc9⟩ := own_formg own_13 (by omega)
    subst e9
    refine hK.out _ _ (⟨x_13, ldT_of (ld_seg x_13 Try.underlying34 rfl (by kernel_rfl) (by kernel_rfl))⟩) (fun hHeld2 => ?_)
    clear hK K hHeld; have hHeld := hHeld2; clear hHeld2
    try simp only [Act.put, List.setIfInBounds_toArray, List.set_cons_zero, List.set_cons_succ]
    refine wpAnyH_ready (rs := [6]) (by kernel_rfl) (by simp) ?_
    refine AllReadyH.cons (o := { dst := some 17, op := Op.call { callee := Callee.value (Operand.func 19), args := #[Operand.tmp 16], argTypes := #[35] }, type := 3, pos := "law.go:33", after := #[{ on := 5, ground := Ground.data }, { on := 5, ground := Ground.chain }], guard := none }) rfl (fun K hK => ?_) (AllReadyH.nil)
    go_simp
    refine (hsm _ _ _ (ars_app rfl own_13 hL hA0 iv_13)).mono ?_; rintro e w_14 ⟨rfl, hb_14⟩
    have iv_14 := iv_13.call hb_14; have x_14 := x_13.below hb_14 x_13.lt; have y_14 := y_13.below hb_14 y_13.lt
    try go_wp2_with fail
    refine hK.out _ _ (⟨x_14, ldT_of (ld_seg x_14 Try.underlying34 rfl (by kernel_rfl) (by kernel_rfl))⟩) (fun hHeld2 => ?_)
    clear hK K hHeld; have hHeld := hHeld2; clear hHeld2
    try simp only [Act.put, List.setIfInBounds_toArray, List.set_cons_zero, List.set_cons_succ]
    refine wpAnyH_take (i := 7) (oi := { dst := some 18, op := Op.binOp BinOp.eql 3 (Operand.tmp 17) (Operand.const (Value.int IntKind.i64 0)) 3, type := 4, pos := "law.go:33", after := #[{ on := 6, ground := Ground.data }], guard := none }) (v := ?_) rfl (by kernel_rfl) (by kernel_rfl) (by kernel_rfl) (fun _ _ _ h => h) (Or.inl ⟨by rfl, ?_⟩) hHeld ?_
    rotate_left
    · intro w hSw
      try dsimp only at hSw
      go_simp
      try with_reducible rfl
    try simp only [Act.put, List.setIfInBounds_toArray, List.set_cons_zero, List.set_cons_succ]
    refine wpAnyH_done (by kernel_rfl) ?_ _
    clear hHeld
    go_wp2_with fail
    refine (lives44_any _).mono ?_; rintro e w5 ⟨rfl, hb5⟩
    have i5 := iv_14.call hb5
    go_wp2_with fail
    go_ret
    exact ⟨rfl, i5⟩
set_option maxRecDepth 100000 in
set_option maxHeartbeats 12800000 in
theorem tells_main (z : ByteArray) (A : Option Addr) (n c : Nat) (l : List P2) (p : P2) (AL : Option Addr) (nL cL : Nat) (L : List Ae) (w : World) (hz : z.size ≤ maxLen) (hR : Pts w w.heap.size A n l) (hm : n ≤ maxLen) (hL : Ars w w.heap.size AL nL L) (hby : nL * 40 ≤ 140737488351232) (hs : smV (L ++ [⟨z, A, n, c, l⟩]) = true) :
    Calls Try.prog 4 #[arV z A n c, p.V, .slice AL nL cL] w fun e w' => e = .returned (.bool true) ∧ Below w.heap.size w w' := by
  have i1 := ((BI.start w).alloc (.cells (arA z A n c) 34)).alloc (.cells p.A 23)
  have x1 := (Blk.new w 34 (arA z A n c)).alloc (.cells p.A 23)
  have y1 := blk_at (w.alloc (.cells (arA z A n c) 34)) 23 p.A (sz1 _ _ rfl)
  have hA0 : Pts w w.heap.size A n l ∧ z.size ≤ maxLen ∧ n ≤ maxLen := ⟨hR, hz, hm⟩
  have hsm := fun (W : World) (A9 : Option Addr) (N c9 : Nat) (h : Ars W W.heap.size A9 N (L ++ [⟨z, A, n, c, l⟩])) => small_any A9 N c9 (L ++ [⟨z, A, n, c, l⟩]) W h
  rw [hs] at hsm
  simp only [if_true] at hsm
  obtain ⟨i0i, hi0', hz0, hz1, hz2⟩ := info_parts ar_info
  have HI := Lib.hid hi0'
  have hnm : nL + 1 ≤ 3518437208884 := by omega
  replace hsm := fun (W : World) (A9 : Option Addr) (c9 : Nat) (h : Ars W W.heap.size A9 (nL + 1) (L ++ [⟨z, A, n, c, l⟩])) => hsm W A9 (nL + 1) c9 h (by unfold maxLen; omega)
  clear hi0' hs
  go_enter Try.func4, Try.ntmps4
  go_upto_region 1 with fail
  obtain ⟨W0, hW0⟩ : ∃ W0 : World, W0 = (w.alloc (.cells (arA z A n c) 34)).alloc (.cells p.A 23) := ⟨_, rfl⟩
  rw [← hW0] at i1 x1 y1
  rw [← hW0]
  clear hW0
  have x0 : Blk W0.drew w.heap.size 34 (arA z A n c) := x1
  have y0 : Blk W0.drew (w.heap.size + 1) 23 p.A := y1
  have iv0 : BI w W0.drew := i1.drew
  clear x1 y1 i1
  go_cut [18] (fun v wx => v = .bool false ∧ BI w wx ∧ Blk wx w.heap.size 34 (arA z A n c) ∧ Blk wx (w.heap.size + 1) 23 p.A)
  case first =>
    refine wp_region_held_drew (S := fun w' => Blk w' w.heap.size 34 (arA z A n c) ∧ ldT 34 (.pointer (some ⟨w.heap.size, 0, none⟩)) w' = some (arA z A n c)) (by kernel_rfl) (⟨x0, ldT_of (ld_seg x0 Try.underlying34 rfl (by kernel_rfl) (by kernel_rfl))⟩) (fun hHeld => ?_)
    refine wpAnyH_take (i := 1) (oi := { dst := some 12, op := Op.move (Operand.tmp 2), type := 35, pos := "law.go:33", after := #[], guard := none }) (v := ?_) rfl (by kernel_rfl) (by kernel_rfl) (by kernel_rfl) (fun _ _ _ h => h) (Or.inl ⟨by rfl, ?_⟩) hHeld ?_
    rotate_left
    · intro w hSw
      try dsimp only at hSw
      go_simp
      try with_reducible rfl
    try simp only [Act.put, List.setIfInBounds_toArray, List.set_cons_zero, List.set_cons_succ]
    refine wpAnyH_take (i := 3) (oi := { dst := some 14, op := Op.load 34 (Operand.tmp 3), type := 34, pos := "law.go:33", after := #[], guard := none }) (v := ?_) rfl (by kernel_rfl) (by kernel_rfl) (by kernel_rfl) (fun _ _ _ h => h) (Or.inl ⟨by rfl, ?_⟩) hHeld ?_
    rotate_left
    · intro w hSw
      try dsimp only at hSw
      go_simp
      try with_reducible rfl
    try simp only [Act.put, List.setIfInBounds_toArray, List.set_cons_zero, List.set_cons_succ]
    refine wpAnyH_ready (rs := [0, 4]) (by kernel_rfl) (by simp) ?_
    refine AllReadyH.cons (o := { dst := some 11, op := Op.buildSlice 35 0 #[], type := 35, pos := "law.go:33", after := #[], guard := none }) rfl (fun K hK => ?_) (AllReadyH.cons (o := { dst := some 15, op := Op.buildSlice 35 1 #[(0, Operand.tmp 14)], type := 35, pos := "law.go:33", after := #[{ on := 3, ground := Ground.data }], guard := none }) rfl (fun K hK => ?_) (AllReadyH.nil))
    · skip
      go_simp
      have own_1 := own_xA (base := W0.drew.heap.size) (W0.drew) (Nat.le_refl W0.drew.heap.size)
      have iv_1 := iv0.alloc (.cells (#[] : Array Value) 34)
      have x_1 := x0.alloc (.cells (#[] : Array Value) 34)
      have y_1 := y0.alloc (.cells (#[] : Array Value) 34)
      have sz_1 : W0.drew.heap.size ≤ ((W0.drew).alloc (.cells (#[] : Array Value) 34)).heap.size := by rw [sz1 _ _ rfl]; exact Nat.le_succ_of_le (Nat.le_refl W0.drew.heap.size)
      refine hK.out _ _ (⟨x_1, ldT_of (ld_seg x_1 Try.underlying34 rfl (by kernel_rfl) (by kernel_rfl))⟩) (fun hHeld2 => ?_)
      clear hK K hHeld; have hHeld := hHeld2; clear hHeld2
      try simp only [Act.put, List.setIfInBounds_toArray, List.set_cons_zero, List.set_cons_succ]
      refine wpAnyH_ready (rs := [2, 4]) (by kernel_rfl) (by simp) ?_
      refine AllReadyH.cons (o := { dst := some 13, op := Op.call { callee := Callee.builtin Builtin.append, args := #[Operand.tmp 11, Operand.tmp 12], argTypes := #[35, 35] }, type := 35, pos := "law.go:33", after := #[{ on := 0, ground := Ground.data }, { on := 1, ground := Ground.data }], guard := none }) rfl (fun K hK => ?_) (AllReadyH.cons (o := { dst := some 15, op := Op.buildSlice 35 1 #[(0, Operand.tmp 14)], type := 35, pos := "law.go:33", after := #[{ on := 3, ground := Ground.data }], guard := none }) rfl (fun K hK => ?_) (AllReadyH.nil))
      · skip
        refine wp_append_any _ (.tmp 11) (.tmp 12) 35 rfl W0.drew.heap.size 34 i0i _ 2 40 Try.underlying35 HI.out hz0 hz1 hz2 rfl (by decide) _ 0 _ rfl own_1 _ _ nL cL (flatA L) rfl (hL.below iv_1.b).r (flatA_one L) (by unfold maxLen; omega) (by omega) sz_1 ?_
        intro v_2 W_2 own_2 hg_2 hat_2
        have iv_2 : BI w W_2 := Below.grown iv_1.b hg_2 iv_1.b.size (fun g hg => Nat.le_trans iv0.b.size (own_lt9 own_1 g hg).1)
        have x_2 := x_1.grown hg_2 (fun e => by have q1 := (own_lt9 own_1 _ e.symm).1; have q2 := x0.lt; omega)
        have y_2 := y_1.grown hg_2 (fun e => by have q1 := (own_lt9 own_1 _ e.symm).1; have q2 := y0.lt; omega)
        have sz_2 : W0.drew.heap.size ≤ W_2.heap.size := Nat.le_trans sz_1 hg_2.size
        refine hK.out _ _ (⟨x_2, ldT_of (ld_seg x_2 Try.underlying34 rfl (by kernel_rfl) (by kernel_rfl))⟩) (fun hHeld2 => ?_)
        clear hK K hHeld; have hHeld := hHeld2; clear hHeld2
        try simp only [Act.put, List.setIfInBounds_toArray, List.set_cons_zero, List.set_cons_succ]
        refine wpAnyH_ready (rs := [4]) (by kernel_rfl) (by simp) ?_
        refine AllReadyH.cons (o := { dst := some 15, op := Op.buildSlice 35 1 #[(0, Operand.tmp 14)], type := 35, pos := "law.go:33", after := #[{ on := 3, ground := Ground.data }], guard := none }) rfl (fun K hK => ?_) (AllReadyH.nil)
        go_simp
        have q_3 := Blk.new (W_2) 34 (arA z A n c)
        have own_3 := own_2.alloc (.cells (arA z A n c) 34)
        have iv_3 := iv_2.alloc (.cells (arA z A n c) 34)
        have x_3 := x_2.alloc (.cells (arA z A n c) 34)
        have y_3 := y_2.alloc (.cells (arA z A n c) 34)
        have sz_3 : W0.drew.heap.size ≤ ((W_2).alloc (.cells (arA z A n c) 34)).heap.size := by rw [sz1 _ _ rfl]; exact Nat.le_succ_of_le sz_2
        refine hK.out _ _ (⟨x_3, ldT_of (ld_seg x_3 Try.underlying34 rfl (by kernel_rfl) (by kernel_rfl))⟩) (fun hHeld2 => ?_)
        clear hK K hHeld; have hHeld := hHeld2; clear hHeld2
        try simp only [Act.put, List.setIfInBounds_toArray, List.set_cons_zero, List.set_cons_succ]
        refine wpAnyH_ready (rs := [5]) (by kernel_rfl) (by simp) ?_
        refine AllReadyH.cons (o := { dst := some 16, op := Op.call { callee := Callee.builtin Builtin.append, args := #[Operand.tmp 13, Operand.tmp 15], argTypes := #[35, 35] }, type := 35, pos := "law.go:33", after := #[{ on := 2, ground := Ground.data }, { on := 4, ground := Ground.data }, { on := 2, ground := Ground.chain }], guard := none }) rfl (fun K hK => ?_) (AllReadyH.nil)
        refine wp_append_any _ (.tmp 13) (.tmp 15) 35 rfl W0.drew.heap.size 34 i0i _ 2 40 Try.underlying35 HI.out hz0 hz1 hz2 rfl (by decide) _ (0 + nL) _ rfl own_3 _ _ 1 1 (flatA [⟨z, A, n, c, l⟩]) rfl (one_reads q_3) (flatA_one _) (by unfold maxLen; omega) (by omega) sz_3 ?_
        intro v_4 W_4 own_4 hg_4 hat_4
        have iv_4 : BI w W_4 := Below.grown iv_3.b hg_4 iv_3.b.size (fun g hg => Nat.le_trans iv0.b.size (own_lt9 own_3 g hg).1)
        have x_4 := x_3.grown hg_4 (fun e => by have q1 := (own_lt9 own_3 _ e.symm).1; have q2 := x0.lt; omega)
        have y_4 := y_3.grown hg_4 (fun e => by have q1 := (own_lt9 own_3 _ e.symm).1; have q2 := y0.lt; omega)
        have sz_4 : W0.drew.heap.size ≤ W_4.heap.size := Nat.le_trans sz_3 hg_4.size
        rw [List.nil_append, ← flatA_app, Nat.zero_add] at own_4
        obtain ⟨g9, c9, e9, hc9⟩ := own_formg own_4 (by omega)
        subst e9
        refine hK.out _ _ (⟨x_4, ldT_of (ld_seg x_4 Try.underlying34 rfl (by kernel_rfl) (by kernel_rfl))⟩) (fun hHeld2 => ?_)
        clear hK K hHeld; have hHeld := hHeld2; clear hHeld2
        try simp only [Act.put, List.setIfInBounds_toArray, List.set_cons_zero, List.set_cons_succ]
        refine wpAnyH_ready (rs := [6]) (by kernel_rfl) (by simp) ?_
        refine AllReadyH.cons (o := { dst := some 17, op := Op.call { callee := Callee.value (Operand.func 19), args := #[Operand.tmp 16], argTypes := #[35] }, type := 3, pos := "law.go:33", after := #[{ on := 5, ground := Ground.data }, { on := 5, ground := Ground.chain }], guard := none }) rfl (fun K hK => ?_) (AllReadyH.nil)
        go_simp
        refine (hsm _ _ _ (ars_app rfl own_4 hL hA0 iv_4)).mono ?_; rintro e w_5 ⟨rfl, hb_5⟩
        have iv_5 := iv_4.call hb_5; have x_5 := x_4.below hb_5 x_4.lt; have y_5 := y_4.below hb_5 y_4.lt
        try go_wp2_with fail
        refine hK.out _ _ (⟨x_5, ldT_of (ld_seg x_5 Try.underlying34 rfl (by kernel_rfl) (by kernel_rfl))⟩) (fun hHeld2 => ?_)
        clear hK K hHeld; have hHeld := hHeld2; clear hHeld2
        try simp only [Act.put, List.setIfInBounds_toArray, List.set_cons_zero, List.set_cons_succ]
        refine wpAnyH_take (i := 7) (oi := { dst := some 18, op := Op.binOp BinOp.eql 3 (Operand.tmp 17) (Operand.const (Value.int IntKind.i64 0)) 3, type := 4, pos := "law.go:33", after := #[{ on := 6, ground := Ground.data }], guard := none }) (v := ?_) rfl (by kernel_rfl) (by kernel_rfl) (by kernel_rfl) (fun _ _ _ h => h) (Or.inl ⟨by rfl, ?_⟩) hHeld ?_
        rotate_left
        · intro w hSw
          try dsimp only at hSw
          go_simp
          try with_reducible rfl
        try simp only [Act.put, List.setIfInBounds_toArray, List.set_cons_zero, List.set_cons_succ]
        refine wpAnyH_done (by kernel_rfl) ?_ _
        clear hHeld
        go_wp2_with fail
        go_meet
        exact ⟨rfl, iv_5, x_5, y_5⟩
      · skip
        go_simp
        have q_6 := blk_at ((W0.drew).alloc (.cells (#[] : Array Value) 34)) 34 (arA z A n c) (sz1 W0.drew _ rfl)
        have own_6 := own_1.alloc (.cells (arA z A n c) 34)
        have iv_6 := iv_1.alloc (.cells (arA z A n c) 34)
        have x_6 := x_1.alloc (.cells (arA z A n c) 34)
        have y_6 := y_1.alloc (.cells (arA z A n c) 34)
        have sz_6 : W0.drew.heap.size ≤ (((W0.drew).alloc (.cells (#[] : Array Value) 34)).alloc (.cells (arA z A n c) 34)).heap.size := by rw [sz1 _ _ rfl]; exact Nat.le_succ_of_le sz_1
        refine hK.out _ _ (⟨x_6, ldT_of (ld_seg x_6 Try.underlying34 rfl (by kernel_rfl) (by kernel_rfl))⟩) (fun hHeld2 => ?_)
        clear hK K hHeld; have hHeld := hHeld2; clear hHeld2
        try simp only [Act.put, List.setIfInBounds_toArray, List.set_cons_zero, List.set_cons_succ]
        refine wpAnyH_ready (rs := [2]) (by kernel_rfl) (by simp) ?_
        refine AllReadyH.cons (o := { dst := some 13, op := Op.call { callee := Callee.builtin Builtin.append, args := #[Operand.tmp 11, Operand.tmp 12], argTypes := #[35, 35] }, type := 35, pos := "law.go:33", after := #[{ on := 0, ground := Ground.data }, { on := 1, ground := Ground.data }], guard := none }) rfl (fun K hK => ?_) (AllReadyH.nil)
        refine wp_append_any _ (.tmp 11) (.tmp 12) 35 rfl W0.drew.heap.size 34 i0i _ 2 40 Try.underlying35 HI.out hz0 hz1 hz2 rfl (by decide) _ 0 _ rfl own_6 _ _ nL cL (flatA L) rfl (hL.below iv_6.b).r (flatA_one L) (by unfold maxLen; omega) (by omega) sz_6 ?_
        intro v_7 W_7 own_7 hg_7 hat_7
        have iv_7 : BI w W_7 := Below.grown iv_6.b hg_7 iv_6.b.size (fun g hg => Nat.le_trans iv0.b.size (own_lt9 own_6 g hg).1)
        have x_7 := x_6.grown hg_7 (fun e => by have q1 := (own_lt9 own_6 _ e.symm).1; have q2 := x0.lt; omega)
        have y_7 := y_6.grown hg_7 (fun e => by have q1 := (own_lt9 own_6 _ e.symm).1; have q2 := y0.lt; omega)
        have q_7 := q_6.grown hg_7 (fun e => by first | (have e2 : some (W0.drew.heap.size + 1) = some W0.drew.heap.size := e; injection e2; omega) | (have e2 : some W0.drew.heap.size = some (W0.drew.heap.size + 1) := e; injection e2; omega))
        have sz_7 : W0.drew.heap.size ≤ W_7.heap.size := Nat.le_trans sz_6 hg_7.size
        refine hK.out _ _ (⟨x_7, ldT_of (ld_seg x_7 Try.underlying34 rfl (by kernel_rfl) (by kernel_rfl))⟩) (fun hHeld2 => ?_)
        clear hK K hHeld; have hHeld := hHeld2; clear hHeld2
        try simp only [Act.put, List.setIfInBounds_toArray, List.set_cons_zero, List.set_cons_succ]
        refine wpAnyH_ready (rs := [5]) (by kernel_rfl) (by simp) ?_
        refine AllReadyH.cons (o := { dst := some 16, op := Op.call { callee := Callee.builtin Builtin.append, args := #[Operand.tmp 13, Operand.tmp 15], argTypes := #[35, 35] }, type := 35, pos := "law.go:33", after := #[{ on := 2, ground := Ground.data }, { on := 4, ground := Ground.data }, { on := 2, ground := Ground.chain }], guard := none }) rfl (fun K hK => ?_) (AllReadyH.nil)
        refine wp_append_any _ (.tmp 13) (.tmp 15) 35 rfl W0.drew.heap.size 34 i0i _ 2 40 Try.underlying35 HI.out hz0 hz1 hz2 rfl (by decide) _ (0 + nL) _ rfl own_7 _ _ 1 1 (flatA [⟨z, A, n, c, l⟩]) rfl (one_reads q_7) (flatA_one _) (by unfold maxLen; omega) (by omega) sz_7 ?_
        intro v_8 W_8 own_8 hg_8 hat_8
        have iv_8 : BI w W_8 := Below.grown iv_7.b hg_8 iv_7.b.size (fun g hg => Nat.le_trans iv0.b.size (own_lt9 own_7 g hg).1)
        have x_8 := x_7.grown hg_8 (fun e => by have q1 := (own_lt9 own_7 _ e.symm).1; have q2 := x0.lt; omega)
        have y_8 := y_7.grown hg_8 (fun e => by have q1 := (own_lt9 own_7 _ e.symm).1; have q2 := y0.lt; omega)
        have sz_8 : W0.drew.heap.size ≤ W_8.heap.size := Nat.le_trans sz_7 hg_8.size
        rw [List.nil_append, ← flatA_app, Nat.zero_add] at own_8
        obtain ⟨g9, c9, e9, hc9⟩ := own_formg own_8 (by omega)
        subst e9
        refine hK.out _ _ (⟨x_8, ldT_of (ld_seg x_8 Try.underlying34 rfl (by kernel_rfl) (by kernel_rfl))⟩) (fun hHeld2 => ?_)
        clear hK K hHeld; have hHeld := hHeld2; clear hHeld2
        try simp only [Act.put, List.setIfInBounds_toArray, List.set_cons_zero, List.set_cons_succ]
        refine wpAnyH_ready (rs := [6]) (by kernel_rfl) (by simp) ?_
        refine AllReadyH.cons (o := { dst := some 17, op := Op.call { callee := Callee.value (Operand.func 19), args := #[Operand.tmp 16], argTypes := #[35] }, type := 3, pos := "law.go:33", after := #[{ on := 5, ground := Ground.data }, { on := 5, ground := Ground.chain }], guard := none }) rfl (fun K hK => ?_) (AllReadyH.nil)
        go_simp
        refine (hsm _ _ _ (ars_app rfl own_8 hL hA0 iv_8)).mono ?_; rintro e w_9 ⟨rfl, hb_9⟩
        have iv_9 := iv_8.call hb_9; have x_9 := x_8.below hb_9 x_8.lt; have y_9 := y_8.below hb_9 y_8.lt
        try go_wp2_with fail
        refine hK.out _ _ (⟨x_9, ldT_of (ld_seg x_9 Try.underlying34 rfl (by kernel_rfl) (by kernel_rfl))⟩) (fun hHeld2 => ?_)
        clear hK K hHeld; have hHeld := hHeld2; clear hHeld2
        try simp only [Act.put, List.setIfInBounds_toArray, List.set_cons_zero, List.set_cons_succ]
        refine wpAnyH_take (i := 7) (oi := { dst := some 18, op := Op.binOp BinOp.eql 3 (Operand.tmp 17) (Operand.const (Value.int IntKind.i64 0)) 3, type := 4, pos := "law.go:33", after := #[{ on := 6, ground := Ground.data }], guard := none }) (v := ?_) rfl (by kernel_rfl) (by kernel_rfl) (by kernel_rfl) (fun _ _ _ h => h) (Or.inl ⟨by rfl, ?_⟩) hHeld ?_
        rotate_left
        · intro w hSw
          try dsimp only at hSw
          go_simp
          try with_reducible rfl
        try simp only [Act.put, List.setIfInBounds_toArray, List.set_cons_zero, List.set_cons_succ]
        refine wpAnyH_done (by kernel_rfl) ?_ _
        clear hHeld
        go_wp2_with fail
        go_meet
        exact ⟨rfl, iv_9, x_9, y_9⟩
    · skip
      go_simp
      have q_10 := Blk.new (W0.drew) 34 (arA z A n c)
      have iv_10 := iv0.alloc (.cells (arA z A n c) 34)
      have x_10 := x0.alloc (.cells (arA z A n c) 34)
      have y_10 := y0.alloc (.cells (arA z A n c) 34)
      have sz_10 : W0.drew.heap.size ≤ ((W0.drew).alloc (.cells (arA z A n c) 34)).heap.size := by rw [sz1 _ _ rfl]; exact Nat.le_succ_of_le (Nat.le_refl W0.drew.heap.size)
      refine hK.out _ _ (⟨x_10, ldT_of (ld_seg x_10 Try.underlying34 rfl (by kernel_rfl) (by kernel_rfl))⟩) (fun hHeld2 => ?_)
      clear hK K hHeld; have hHeld := hHeld2; clear hHeld2
      try simp only [Act.put, List.setIfInBounds_toArray, List.set_cons_zero, List.set_cons_succ]
      refine wpAnyH_ready (rs := [0]) (by kernel_rfl) (by simp) ?_
      refine AllReadyH.cons (o := { dst := some 11, op := Op.buildSlice 35 0 #[], type := 35, pos := "law.go:33", after := #[], guard := none }) rfl (fun K hK => ?_) (AllReadyH.nil)
      go_simp
      have own_11 := own_xA (base := W0.drew.heap.size) ((W0.drew).alloc (.cells (arA z A n c) 34)) sz_10
      rw [sz1 W0.drew _ rfl] at own_11
      have q_11 := q_10.alloc (.cells (#[] : Array Value) 34)
      have iv_11 := iv_10.alloc (.cells (#[] : Array Value) 34)
      have x_11 := x_10.alloc (.cells (#[] : Array Value) 34)
      have y_11 := y_10.alloc (.cells (#[] : Array Value) 34)
      have sz_11 : W0.drew.heap.size ≤ (((W0.drew).alloc (.cells (arA z A n c) 34)).alloc (.cells (#[] : Array Value) 34)).heap.size := by rw [sz1 _ _ rfl]; exact Nat.le_succ_of_le sz_10
      refine hK.out _ _ (⟨x_11, ldT_of (ld_seg x_11 Try.underlying34 rfl (by kernel_rfl) (by kernel_rfl))⟩) (fun hHeld2 => ?_)
      clear hK K hHeld; have hHeld := hHeld2; clear hHeld2
      try simp only [Act.put, List.setIfInBounds_toArray, List.set_cons_zero, List.set_cons_succ]
      refine wpAnyH_ready (rs := [2]) (by kernel_rfl) (by simp) ?_
      refine AllReadyH.cons (o := { dst := some 13, op := Op.call { callee := Callee.builtin Builtin.append, args := #[Operand.tmp 11, Operand.tmp 12], argTypes := #[35, 35] }, type := 35, pos := "law.go:33", after := #[{ on := 0, ground := Ground.data }, { on := 1, ground := Ground.data }], guard := none }) rfl (fun K hK => ?_) (AllReadyH.nil)
      refine wp_append_any _ (.tmp 11) (.tmp 12) 35 rfl W0.drew.heap.size 34 i0i _ 2 40 Try.underlying35 HI.out hz0 hz1 hz2 rfl (by decide) _ 0 _ rfl own_11 _ _ nL cL (flatA L) rfl (hL.below iv_11.b).r (flatA_one L) (by unfold maxLen; omega) (by omega) sz_11 ?_
      intro v_12 W_12 own_12 hg_12 hat_12
      have iv_12 : BI w W_12 := Below.grown iv_11.b hg_12 iv_11.b.size (fun g hg => Nat.le_trans iv0.b.size (own_lt9 own_11 g hg).1)
      have x_12 := x_11.grown hg_12 (fun e => by have q1 := (own_lt9 own_11 _ e.symm).1; have q2 := x0.lt; omega)
      have y_12 := y_11.grown hg_12 (fun e => by have q1 := (own_lt9 own_11 _ e.symm).1; have q2 := y0.lt; omega)
      have q_12 := q_11.grown hg_12 (fun e => by first | (have e2 : some (W0.drew.heap.size + 1) = some W0.drew.heap.size := e; injection e2; omega) | (have e2 : some W0.drew.heap.size = some (W0.drew.heap.size + 1) := e; injection e2; omega))
      have sz_12 : W0.drew.heap.size ≤ W_12.heap.size := Nat.le_trans sz_11 hg_12.size
      refine hK.out _ _ (⟨x_12, ldT_of (ld_seg x_12 Try.underlying34 rfl (by kernel_rfl) (by kernel_rfl))⟩) (fun hHeld2 => ?_)
      clear hK K hHeld; have hHeld := hHeld2; clear hHeld2
      try simp only [Act.put, List.setIfInBounds_toArray, List.set_cons_zero, List.set_cons_succ]
      refine wpAnyH_ready (rs := [5]) (by kernel_rfl) (by simp) ?_
      refine AllReadyH.cons (o := { dst := some 16, op := Op.call { callee := Callee.builtin Builtin.append, args := #[Operand.tmp 13, Operand.tmp 15], argTypes := #[35, 35] }, type := 35, pos := "law.go:33", after := #[{ on := 2, ground := Ground.data }, { on := 4, ground := Ground.data }, { on := 2, ground := Ground.chain }], guard := none }) rfl (fun K hK => ?_) (AllReadyH.nil)
      refine wp_append_any _ (.tmp 13) (.tmp 15) 35 rfl W0.drew.heap.size 34 i0i _ 2 40 Try.underlying35 HI.out hz0 hz1 hz2 rfl (by decide) _ (0 + nL) _ rfl own_12 _ _ 1 1 (flatA [⟨z, A, n, c, l⟩]) rfl (one_reads q_12) (flatA_one _) (by unfold maxLen; omega) (by omega) sz_12 ?_
      intro v_13 W_13 own_13 hg_13 hat_13
      have iv_13 : BI w W_13 := Below.grown iv_12.b hg_13 iv_12.b.size (fun g hg => Nat.le_trans iv0.b.size (own_lt9 own_12 g hg).1)
      have x_13 := x_12.grown hg_13 (fun e => by have q1 := (own_lt9 own_12 _ e.symm).1; have q2 := x0.lt; omega)
      have y_13 := y_12.grown hg_13 (fun e => by have q1 := (own_lt9 own_12 _ e.symm).1; have q2 := y0.lt; omega)
      have sz_13 : W0.drew.heap.size ≤ W_13.heap.size := Nat.le_trans sz_12 hg_13.size
      rw [List.nil_append, ← flatA_app, Nat.zero_add] at own_13
      obtain ⟨g9, c9, e9, hc9⟩ := own_formg own_13 (by omega)
      subst e9
      refine hK.out _ _ (⟨x_13, ldT_of (ld_seg x_13 Try.underlying34 rfl (by kernel_rfl) (by kernel_rfl))⟩) (fun hHeld2 => ?_)
      clear hK K hHeld; have hHeld := hHeld2; clear hHeld2
      try simp only [Act.put, List.setIfInBounds_toArray, List.set_cons_zero, List.set_cons_succ]
      refine wpAnyH_ready (rs := [6]) (by kernel_rfl) (by simp) ?_
      refine AllReadyH.cons (o := { dst := some 17, op := Op.call { callee := Callee.value (Operand.func 19), args := #[Operand.tmp 16], argTypes := #[35] }, type := 3, pos := "law.go:33", after := #[{ on := 5, ground := Ground.data }, { on := 5, ground := Ground.chain }], guard := none }) rfl (fun K hK => ?_) (AllReadyH.nil)
      go_simp
      refine (hsm _ _ _ (ars_app rfl own_13 hL hA0 iv_13)).mono ?_; rintro e w_14 ⟨rfl, hb_14⟩
      have iv_14 := iv_13.call hb_14; have x_14 := x_13.below hb_14 x_13.lt; have y_14 := y_13.below hb_14 y_13.lt
      try go_wp2_with fail
      refine hK.out _ _ (⟨x_14, ldT_of (ld_seg x_14 Try.underlying34 rfl (by kernel_rfl) (by kernel_rfl))⟩) (fun hHeld2 => ?_)
      clear hK K hHeld; have hHeld := hHeld2; clear hHeld2
      try simp only [Act.put, List.setIfInBounds_toArray, List.set_cons_zero, List.set_cons_succ]
      refine wpAnyH_take (i := 7) (oi := { dst := some 18, op := Op.binOp BinOp.eql 3 (Operand.tmp 17) (Operand.const (Value.int IntKind.i64 0)) 3, type := 4, pos := "law.go:33", after := #[{ on := 6, ground := Ground.data }], guard := none }) (v := ?_) rfl (by kernel_rfl) (by kernel_rfl) (by kernel_rfl) (fun _ _ _ h => h) (Or.inl ⟨by rfl, ?_⟩) hHeld ?_
      rotate_left
      · intro w hSw
        try dsimp only at hSw
        go_simp
        try with_reducible rfl
      try simp only [Act.put, List.setIfInBounds_toArray, List.set_cons_zero, List.set_cons_succ]
      refine wpAnyH_done (by kernel_rfl) ?_ _
      clear hHeld
      go_wp2_with fail
      go_meet
      exact ⟨rfl, iv_14, x_14, y_14⟩
  case rest =>
  clear x0 y0 iv0
  obtain ⟨rfl, i3, x3, y3⟩ := hcut
  obtain ⟨W3, rfl⟩ : ∃ W : World, W = wc := ⟨_, rfl⟩
  have hzo := fun W (i : BI w W) => zone_any AL nL cL L p W ((hL.below i.b).more i.b.size) (by unfold maxLen; omega)
  have hzr := fun W (i : BI w W) => rzone_any AL nL cL L p W ((hL.below i.b).more i.b.size) (by unfold maxLen; omega)
  generalize zoS L p = ZS at *
  generalize zoE L p = ZE at *
  go_wp2_with (first | refine wpList_row_g rfl 23 _ rfl _ rfl _ _ _ _ y3 Try.underlying23 rfl (by kernel_rfl) ?_)
  refine (hzo _ i3).mono ?_; rintro e w4 ⟨rfl, hb4⟩
  have i4 := i3.call hb4; have x4 := x3.below hb4 x3.lt; have y4 := y3.below hb4 y3.lt
  clear i3 x3 y3 hb4 hzo
  go_wp2_with (first | refine wpList_row_g rfl 23 _ rfl _ rfl _ _ _ _ y4 Try.underlying23 rfl (by kernel_rfl) ?_)
  refine (hzr _ i4).mono ?_; rintro e w5 ⟨rfl, hb5⟩
  have i5 := i4.call hb5; have x5 := x4.below hb5 x4.lt; have y5 := y4.below hb5 y4.lt
  clear i4 x4 y4 hb5 hzr
  have hlv := fun W => lives44_any W
  have hc1 := fun (W : World) (h : Pts W W.heap.size A n l) => acheck_any z A n c W.heap.size l W hz h (Nat.le_refl _) hm
  have hc2 := fun (W : World) (h : Pts W W.heap.size A n l) => racheck_any z A n c W.heap.size l W hz h (Nat.le_refl _) hm
  have he1 := fun (W : World) (h : Pts W W.heap.size A n l) => Edge_any z A n c l p W hz h hm
  have he2 := fun (W : World) (h : Pts W W.heap.size A n l) => rEdge_any z A n c l p W hz h hm
  have hn1 := fun (W : World) (h : Pts W W.heap.size A n l) => Inside_any z A n c l p W hz h hm
  have hn2 := fun (W : World) (h : Pts W W.heap.size A n l) => rInside_any z A n c l p W hz h hm
  have hz1' := fun (W : World) (h : Pts W W.heap.size A n l) => size_any z A n c l W hz h hm
  have hz2' := fun (W : World) (h : Pts W W.heap.size A n l) => rsize_any z A n c l W hz h hm
  generalize arE z l = CE at *
  generalize (rtB z l p && edB l p) = EE at *
  generalize (rtB z l p && inB l p) = NE at *
  generalize szV z l = SE at *
  have f1 : (CE == CE) = true := by simp
  have f2 : (EE == EE) = true := by simp
  have f3 : (NE == NE) = true := by simp
  have f4 : (SE == SE) = true := by simp
  have f6 : (ZE == ZE) = true := by simp
  go_upto_region 5 with fail
  obtain ⟨W5, rfl⟩ : ∃ W : World, W = w5 := ⟨_, rfl⟩
  have ZZ := Lib.hid (at_mk (W := W5.drew) i5.drew (show Blk W5.drew _ _ _ from x5) (show Blk W5.drew _ _ _ from y5) (show Pts W5.drew W5.drew.heap.size _ _ _ from Pts.more (hR.below i5.drew.b) i5.drew.b.size))
  clear i5 x5 y5
  go_region_held3 (fun w' => BI w w' ∧ Blk w' w.heap.size 34 (arA z A n c) ∧ Blk w' (w.heap.size + 1) 23 p.A ∧ Pts w' w'.heap.size A n l ∧ ldT 34 (.pointer (some ⟨w.heap.size, 0, none⟩)) w' = some (arA z A n c) ∧ ldT 23 (.pointer (some ⟨w.heap.size + 1, 0, none⟩)) w' = some p.A)
    (first | exact ZZ.out | exact at_on (by assumption) hbl)
    (first
      | (go_at_call 20; refine (hlv _).mono ?_; rintro e w' ⟨rfl, hbl⟩)
      | (go_at_call 23; refine (hc1 _ (by go_split_ands; assumption)).mono ?_; rintro e w' ⟨rfl, hbl⟩)
      | (go_at_call 24; refine (hc2 _ (by go_split_ands; assumption)).mono ?_; rintro e w' ⟨rfl, hbl⟩)
      | (go_at_call 25; refine (he1 _ (by go_split_ands; assumption)).mono ?_; rintro e w' ⟨rfl, hbl⟩)
      | (go_at_call 26; refine (he2 _ (by go_split_ands; assumption)).mono ?_; rintro e w' ⟨rfl, hbl⟩)
      | (go_at_call 27; refine (hn1 _ (by go_split_ands; assumption)).mono ?_; rintro e w' ⟨rfl, hbl⟩)
      | (go_at_call 28; refine (hn2 _ (by go_split_ands; assumption)).mono ?_; rintro e w' ⟨rfl, hbl⟩)
      | (go_at_call 29; refine (hz1' _ (by go_split_ands; assumption)).mono ?_; rintro e w' ⟨rfl, hbl⟩)
      | (go_at_call 30; refine (hz2' _ (by go_split_ands; assumption)).mono ?_; rintro e w' ⟨rfl, hbl⟩))
  all_goals
    go_wp2_with fail
    go_ret
    exact ⟨by simp, BI.ofB (by assumption)⟩
theorem tells_any (z : ByteArray) (A : Option Addr) (n c : Nat) (l : List P2) (p : P2) (AL : Option Addr) (nL cL : Nat) (L : List Ae) (w : World) (hz : z.size ≤ maxLen) (hR : Pts w w.heap.size A n l) (hm : n ≤ maxLen) (hL : Ars w w.heap.size AL nL L) (hby : nL * 40 ≤ 140737488351232) :
    Calls Try.prog 4 #[arV z A n c, p.V, .slice AL nL cL] w fun e w' => e = .returned (.bool true) ∧ Below w.heap.size w w' := by
  cases hs : smV (L ++ [⟨z, A, n, c, l⟩])
  · exact tells_small z A n c l p AL nL cL L w hz hR hm hL hby hs
  · exact tells_main z A n c l p AL nL cL L w hz hR hm hL hby hs
end Go.Proofs.Ytoiccljmdplfgaa.Ar
