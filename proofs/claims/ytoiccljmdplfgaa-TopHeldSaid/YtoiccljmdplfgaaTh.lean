/-
  TopHeld, WALKED.
-/
import Derived.Test.YtoiccljmdplfgaaRaD
import Derived.Test.YtoiccljmdplfgaaNr3
namespace Go.Proofs.Ytoiccljmdplfgaa.Ar
open Go.ChangeShapes Go.WideShapes Go.ChangeAt Go.RowKit Go.Shelf
open Go.Proofs.Ytoiccljmdplfgaa
open Go.Proofs.Ytoiccljmdplfgaa.Wd
open Go.Proofs.Ytoiccljmdplfgaa.Pl
open Go.Proofs.Ytoiccljmdplfgaa.Nv
open Go.Proofs.Ytoiccljmdplfgaa.Ld
set_option linter.unusedVariables false
set_option linter.unusedSimpArgs false
open Go.Proofs.Ytoiccljmdplfgaa.Nr (begins22_any)
attribute [local go_sem ↓] Go.wp_at_zero Go.wp_at_succ
attribute [local go_sem ↓] ldA_sem ldP_sem
attribute [local go_sem] ldSem_run
theorem s1_of {w W : World} {n c : Nat} {z : ByteArray} {A : Option Addr} {p : P2} (hx : Blk W (w.heap.size + 1) 34 (arA z A n c)) (hy : Blk W w.heap.size 23 p.A) :
    Blk W (w.heap.size + 1) 34 (arA z A n c) ∧ ldT 34 (.pointer (some ⟨w.heap.size + 1, 0, none⟩)) W = some (arA z A n c) ∧ Blk W w.heap.size 23 p.A ∧ ldT 23 (.pointer (some ⟨w.heap.size, 0, none⟩)) W = some p.A := ⟨hx, ldT_of (ld_seg hx Try.underlying34 rfl (by kernel_rfl) (by kernel_rfl)), hy, ld_b hy⟩
theorem al_one (a : Ae) : alB [a] = arOk a.z a.l := by unfold alB; simp
theorem zone_corner {a : Ae} {k : Nat} (h : arOk a.z a.l = true) (hk : k < a.l.length) : zoS [a] (pt_ a.l k) = a.z ∧ zoE [a] (pt_ a.l k) = 0 := by
  obtain ⟨h1, -, h3⟩ := corner_on (z := a.z) h hk
  have hp : (pt_ a.l k).ok = true := by unfold rtB at h1; rw [Bool.and_eq_true] at h1; exact h1.1
  exact zo_some (a := a) (by rw [hp, al_one, h]; rfl) (by unfold fiA; rw [List.find?_cons, h3])
theorem fi_app (L : List Ae) (a : Ae) (p : P2) : fiA (L ++ [a]) p = match fiA L p with | some b => some b | none => if inB a.l p = true then some a else none := by
  unfold fiA
  rw [List.find?_append, List.find?_cons, List.find?_nil]
  cases List.find? (fun a => inB a.l p) L <;> cases inB a.l p <;> rfl
theorem al_app (L : List Ae) (a : Ae) : alB (L ++ [a]) = (alB L && arOk a.z a.l) := by unfold alB; rw [List.all_append]; simp
def fiK (L : List Ae) (p : P2) (k : Nat) : Bool := (fiA (L.take k) p).isSome
theorem fiK_stay {L : List Ae} {p : P2} {k : Nat} (h : k < L.length) (h0 : fiK L p k = true) : fiK L p (k + 1) = true := by
  unfold fiK fiA at *
  rw [ae_take h, List.find?_append]
  cases hf : List.find? (fun a => inB a.l p) (L.take k)
  · rw [hf] at h0; cases h0
  · rfl
theorem fiK_no {L : List Ae} {p : P2} {k : Nat} (h : k < L.length) (h0 : fiK L p k = false) (hi : inB (ae_ L k).l p = false) : fiK L p (k + 1) = false := by
  have h1 : fiA (L.take k) p = none := by unfold fiK at h0; simpa using h0
  unfold fiK; rw [(fi_take h h1).1 hi]; rfl
theorem fiK_yes {L : List Ae} {p : P2} {k : Nat} (h : k < L.length) (h0 : fiK L p k = false) (hi : inB (ae_ L k).l p = true) : fiK L p (k + 1) = true ∧ fiA L p = some (ae_ L k) := by
  have h1 : fiA (L.take k) p = none := by unfold fiK at h0; simpa using h0
  refine ⟨?_, (fi_take h h1).2 hi⟩
  unfold fiK fiA at *
  rw [ae_take h, List.find?_append, h1, List.find?_cons, hi]; rfl
theorem one_ars {w : World} {g : Nat} {t : TypeId} {a : Ae} (x : Blk w g t a.C) (h : Pts w w.heap.size a.A a.n a.l ∧ a.z.size ≤ maxLen ∧ a.n ≤ maxLen) : Ars w w.heap.size (some ⟨g, 0, none⟩) 1 [a] :=
  ars_of (L := [a]) x (by show _ = a.C.toList ++ []; rw [List.append_nil]) (fun b hb => by rw [List.mem_singleton.1 hb]; exact h)
set_option maxRecDepth 100000 in
set_option maxHeartbeats 12800000 in
theorem held_small (AL : Option Addr) (nL cL : Nat) (L : List Ae) (p : P2) (z : ByteArray) (A : Option Addr) (n c : Nat) (l : List P2) (w : World) (hz : z.size ≤ maxLen) (hR : Pts w w.heap.size A n l) (hm : n ≤ maxLen) (hL : Ars w w.heap.size AL nL L) (hby : nL * 40 ≤ 140737488351232) (hs : smV (L ++ [⟨z, A, n, c, l⟩]) = false) :
    Calls Try.prog 11 #[.slice AL nL cL, p.V, arV z A n c] w fun e w' => e = .returned (.bool true) ∧ Below w.heap.size w w' := by
  have i1 := ((BI.start w).alloc (.cells p.A 23)).alloc (.cells (arA z A n c) 34)
  have y1 := (Blk.new w 23 p.A).alloc (.cells (arA z A n c) 34)
  have x1 := blk_at (w.alloc (.cells p.A 23)) 34 (arA z A n c) (sz1 _ _ rfl)
  have hA0 : Pts w w.heap.size A n l ∧ z.size ≤ maxLen ∧ n ≤ maxLen := ⟨hR, hz, hm⟩
  have hsm := fun (W : World) (A9 : Option Addr) (N c9 : Nat) (h : Ars W W.heap.size A9 N (L ++ [⟨z, A, n, c, l⟩])) => small_any A9 N c9 (L ++ [⟨z, A, n, c, l⟩]) W h
  rw [hs] at hsm
  simp only [Bool.false_eq_true, if_false] at hsm
  obtain ⟨i0i, hi0', hz0, hz1, hz2⟩ := info_parts ar_info
  have HI := Lib.hid hi0'
  have hnm : nL + 1 ≤ 3518437208884 := by omega
  replace hsm := fun (W : World) (A9 : Option Addr) (c9 : Nat) (h : Ars W W.heap.size A9 (nL + 1) (L ++ [⟨z, A, n, c, l⟩])) => hsm W A9 (nL + 1) c9 h (by unfold maxLen; omega)
  clear hi0' hs
  go_enter Try.func11, Try.ntmps11
  go_wp2_with fail
  refine (begins22_any _).mono ?_; rintro e w2 ⟨rfl, hb2⟩
  have i2 := i1.call hb2; have x2 := x1.below hb2 x1.lt; have y2 := y1.below hb2 y1.lt
  clear i1 x1 y1 hb2
  go_upto_region 3 with fail
  obtain ⟨W0, rfl⟩ : ∃ W0 : World, W0 = w2 := ⟨_, rfl⟩
  have x0 : Blk W0.drew (w.heap.size + 1) 34 (arA z A n c) := x2
  have y0 : Blk W0.drew w.heap.size 23 p.A := y2
  have iv0 : BI w W0.drew := i2.drew
  clear x2 y2 i2
  refine wp_region_held_drew (S := fun w' => Blk w' (w.heap.size + 1) 34 (arA z A n c) ∧ ldT 34 (.pointer (some ⟨w.heap.size + 1, 0, none⟩)) w' = some (arA z A n c) ∧ Blk w' w.heap.size 23 p.A ∧ ldT 23 (.pointer (some ⟨w.heap.size, 0, none⟩)) w' = some p.A) (by kernel_rfl) (s1_of x0 y0) (fun hHeld => ?_)
  refine wpAnyH_take (i := 1) (oi := { dst := some 21, op := Op.move (Operand.tmp 0), type := 35, pos := "top22.go:57", after := #[], guard := none }) (v := ?_) rfl (by kernel_rfl) (by kernel_rfl) (by kernel_rfl) (fun _ _ _ h => h) (Or.inl ⟨by rfl, ?_⟩) hHeld ?_
  rotate_left
  · intro w hSw
    try dsimp only at hSw
    go_simp
    try with_reducible rfl
  try simp only [Act.put, List.setIfInBounds_toArray, List.set_cons_zero, List.set_cons_succ]
  refine wpAnyH_take (i := 3) (oi := { dst := some 23, op := Op.load 34 (Operand.tmp 5), type := 34, pos := "top22.go:57", after := #[], guard := none }) (v := ?_) rfl (by kernel_rfl) (by kernel_rfl) (by kernel_rfl) (fun _ _ _ h => h) (Or.inl ⟨by rfl, ?_⟩) hHeld ?_
  rotate_left
  · intro w hSw
    try dsimp only at hSw
    go_simp
    try with_reducible rfl
  try simp only [Act.put, List.setIfInBounds_toArray, List.set_cons_zero, List.set_cons_succ]
  refine wpAnyH_ready (rs := [0, 4]) (by kernel_rfl) (by simp) ?_
  refine AllReadyH.cons (o := { dst := some 20, op := Op.buildSlice 35 0 #[], type := 35, pos := "top22.go:57", after := #[], guard := none }) rfl (fun K hK => ?_) (AllReadyH.cons (o := { dst := some 24, op := Op.buildSlice 35 1 #[(0, Operand.tmp 23)], type := 35, pos := "top22.go:57", after := #[{ on := 3, ground := Ground.data }], guard := none }) rfl (fun K hK => ?_) (AllReadyH.nil))
  · skip
    go_simp
    have own_1 := own_xA (base := W0.drew.heap.size) (W0.drew) (Nat.le_refl W0.drew.heap.size)
    have iv_1 := iv0.alloc (.cells (#[] : Array Value) 34)
    have x_1 := x0.alloc (.cells (#[] : Array Value) 34)
    have y_1 := y0.alloc (.cells (#[] : Array Value) 34)
    have sz_1 : W0.drew.heap.size ≤ ((W0.drew).alloc (.cells (#[] : Array Value) 34)).heap.size := by rw [sz1 _ _ rfl]; exact Nat.le_succ_of_le (Nat.le_refl W0.drew.heap.size)
    refine hK.out _ _ (s1_of x_1 y_1) (fun hHeld2 => ?_)
    clear hK K hHeld; have hHeld := hHeld2; clear hHeld2
    try simp only [Act.put, List.setIfInBounds_toArray, List.set_cons_zero, List.set_cons_succ]
    refine wpAnyH_ready (rs := [2, 4]) (by kernel_rfl) (by simp) ?_
    refine AllReadyH.cons (o := { dst := some 22, op := Op.call { callee := Callee.builtin Builtin.append, args := #[Operand.tmp 20, Operand.tmp 21], argTypes := #[35, 35] }, type := 35, pos := "top22.go:57", after := #[{ on := 0, ground := Ground.data }, { on := 1, ground := Ground.data }], guard := none }) rfl (fun K hK => ?_) (AllReadyH.cons (o := { dst := some 24, op := Op.buildSlice 35 1 #[(0, Operand.tmp 23)], type := 35, pos := "top22.go:57", after := #[{ on := 3, ground := Ground.data }], guard := none }) rfl (fun K hK => ?_) (AllReadyH.nil))
    · skip
      refine wp_append_any _ (.tmp 20) (.tmp 21) 35 rfl W0.drew.heap.size 34 i0i _ 2 40 Try.underlying35 HI.out hz0 hz1 hz2 rfl (by decide) _ 0 _ rfl own_1 _ _ nL cL (flatA L) rfl (hL.below iv_1.b).r (flatA_one L) (by unfold maxLen; omega) (by omega) sz_1 ?_
      intro v_2 W_2 own_2 hg_2 hat_2
      have iv_2 : BI w W_2 := Below.grown iv_1.b hg_2 iv_1.b.size (fun g hg => Nat.le_trans iv0.b.size (own_lt9 own_1 g hg).1)
      have x_2 := x_1.grown hg_2 (fun e => by have q1 := (own_lt9 own_1 _ e.symm).1; have q2 := x0.lt; omega)
      have y_2 := y_1.grown hg_2 (fun e => by have q1 := (own_lt9 own_1 _ e.symm).1; have q2 := y0.lt; omega)
      have sz_2 : W0.drew.heap.size ≤ W_2.heap.size := Nat.le_trans sz_1 hg_2.size
      refine hK.out _ _ (s1_of x_2 y_2) (fun hHeld2 => ?_)
      clear hK K hHeld; have hHeld := hHeld2; clear hHeld2
      try simp only [Act.put, List.setIfInBounds_toArray, List.set_cons_zero, List.set_cons_succ]
      refine wpAnyH_ready (rs := [4]) (by kernel_rfl) (by simp) ?_
      refine AllReadyH.cons (o := { dst := some 24, op := Op.buildSlice 35 1 #[(0, Operand.tmp 23)], type := 35, pos := "top22.go:57", after := #[{ on := 3, ground := Ground.data }], guard := none }) rfl (fun K hK => ?_) (AllReadyH.nil)
      go_simp
      have q_3 := Blk.new (W_2) 34 (arA z A n c)
      have own_3 := own_2.alloc (.cells (arA z A n c) 34)
      have iv_3 := iv_2.alloc (.cells (arA z A n c) 34)
      have x_3 := x_2.alloc (.cells (arA z A n c) 34)
      have y_3 := y_2.alloc (.cells (arA z A n c) 34)
      have sz_3 : W0.drew.heap.size ≤ ((W_2).alloc (.cells (arA z A n c) 34)).heap.size := by rw [sz1 _ _ rfl]; exact Nat.le_succ_of_le sz_2
      refine hK.out _ _ (s1_of x_3 y_3) (fun hHeld2 => ?_)
      clear hK K hHeld; have hHeld := hHeld2; clear hHeld2
      try simp only [Act.put, List.setIfInBounds_toArray, List.set_cons_zero, List.set_cons_succ]
      refine wpAnyH_ready (rs := [5]) (by kernel_rfl) (by simp) ?_
      refine AllReadyH.cons (o := { dst := some 25, op := Op.call { callee := Callee.builtin Builtin.append, args := #[Operand.tmp 22, Operand.tmp 24], argTypes := #[35, 35] }, type := 35, pos := "top22.go:57", after := #[{ on := 2, ground := Ground.data }, { on := 4, ground := Ground.data }, { on := 2, ground := Ground.chain }], guard := none }) rfl (fun K hK => ?_) (AllReadyH.nil)
      refine wp_append_any _ (.tmp 22) (.tmp 24) 35 rfl W0.drew.heap.size 34 i0i _ 2 40 Try.underlying35 HI.out hz0 hz1 hz2 rfl (by decide) _ (0 + nL) _ rfl own_3 _ _ 1 1 (flatA [⟨z, A, n, c, l⟩]) rfl (one_reads q_3) (flatA_one _) (by unfold maxLen; omega) (by omega) sz_3 ?_
      intro v_4 W_4 own_4 hg_4 hat_4
      have iv_4 : BI w W_4 := Below.grown iv_3.b hg_4 iv_3.b.size (fun g hg => Nat.le_trans iv0.b.size (own_lt9 own_3 g hg).1)
      have x_4 := x_3.grown hg_4 (fun e => by have q1 := (own_lt9 own_3 _ e.symm).1; have q2 := x0.lt; omega)
      have y_4 := y_3.grown hg_4 (fun e => by have q1 := (own_lt9 own_3 _ e.symm).1; have q2 := y0.lt; omega)
      have sz_4 : W0.drew.heap.size ≤ W_4.heap.size := Nat.le_trans sz_3 hg_4.size
      rw [List.nil_append, ← flatA_app, Nat.zero_add] at own_4
      obtain ⟨g9, c9, e9, hc9⟩ := own_formg own_4 (by omega)
      subst e9
      refine hK.out _ _ (s1_of x_4 y_4) (fun hHeld2 => ?_)
      clear hK K hHeld; have hHeld := hHeld2; clear hHeld2
      try simp only [Act.put, List.setIfInBounds_toArray, List.set_cons_zero, List.set_cons_succ]
      refine wpAnyH_ready (rs := [6]) (by kernel_rfl) (by simp) ?_
      refine AllReadyH.cons (o := { dst := some 26, op := Op.call { callee := Callee.value (Operand.func 19), args := #[Operand.tmp 25], argTypes := #[35] }, type := 3, pos := "top22.go:57", after := #[{ on := 5, ground := Ground.data }, { on := 5, ground := Ground.chain }], guard := none }) rfl (fun K hK => ?_) (AllReadyH.nil)
      go_simp
      refine (hsm _ _ _ (ars_app rfl own_4 hL hA0 iv_4)).mono ?_; rintro e w_5 ⟨rfl, hb_5⟩
      have iv_5 := iv_4.call hb_5; have x_5 := x_4.below hb_5 x_4.lt; have y_5 := y_4.below hb_5 y_4.lt
      try go_wp2_with fail
      refine hK.out _ _ (s1_of x_5 y_5) (fun hHeld2 => ?_)
      clear hK K hHeld; have hHeld := hHeld2; clear hHeld2
      try simp only [Act.put, List.setIfInBounds_toArray, List.set_cons_zero, List.set_cons_succ]
      refine wpAnyH_take (i := 7) (oi := { dst := some 27, op := Op.binOp BinOp.eql 3 (Operand.tmp 26) (Operand.const (Value.int IntKind.i64 0)) 3, type := 4, pos := "top22.go:57", after := #[{ on := 6, ground := Ground.data }], guard := none }) (v := ?_) rfl (by kernel_rfl) (by kernel_rfl) (by kernel_rfl) (fun _ _ _ h => h) (Or.inl ⟨by rfl, ?_⟩) hHeld ?_
      rotate_left
      · intro w hSw
        try dsimp only at hSw
        go_simp
        try with_reducible rfl
      try simp only [Act.put, List.setIfInBounds_toArray, List.set_cons_zero, List.set_cons_succ]
      refine wpAnyH_done (by kernel_rfl) ?_ _
      clear hHeld
      go_wp2_with fail
      go_ret
      exact ⟨rfl, iv_5⟩
    · skip
      go_simp
      have q_6 := blk_at ((W0.drew).alloc (.cells (#[] : Array Value) 34)) 34 (arA z A n c) (sz1 W0.drew _ rfl)
      have own_6 := own_1.alloc (.cells (arA z A n c) 34)
      have iv_6 := iv_1.alloc (.cells (arA z A n c) 34)
      have x_6 := x_1.alloc (.cells (arA z A n c) 34)
      have y_6 := y_1.alloc (.cells (arA z A n c) 34)
      have sz_6 : W0.drew.heap.size ≤ (((W0.drew).alloc (.cells (#[] : Array Value) 34)).alloc (.cells (arA z A n c) 34)).heap.size := by rw [sz1 _ _ rfl]; exact Nat.le_succ_of_le sz_1
      refine hK.out _ _ (s1_of x_6 y_6) (fun hHeld2 => ?_)
      clear hK K hHeld; have hHeld := hHeld2; clear hHeld2
      try simp only [Act.put, List.setIfInBounds_toArray, List.set_cons_zero, List.set_cons_succ]
      refine wpAnyH_ready (rs := [2]) (by kernel_rfl) (by simp) ?_
      refine AllReadyH.cons (o := { dst := some 22, op := Op.call { callee := Callee.builtin Builtin.append, args := #[Operand.tmp 20, Operand.tmp 21], argTypes := #[35, 35] }, type := 35, pos := "top22.go:57", after := #[{ on := 0, ground := Ground.data }, { on := 1, ground := Ground.data }], guard := none }) rfl (fun K hK => ?_) (AllReadyH.nil)
      refine wp_append_any _ (.tmp 20) (.tmp 21) 35 rfl W0.drew.heap.size 34 i0i _ 2 40 Try.underlying35 HI.out hz0 hz1 hz2 rfl (by decide) _ 0 _ rfl own_6 _ _ nL cL (flatA L) rfl (hL.below iv_6.b).r (flatA_one L) (by unfold maxLen; omega) (by omega) sz_6 ?_
      intro v_7 W_7 own_7 hg_7 hat_7
      have iv_7 : BI w W_7 := Below.grown iv_6.b hg_7 iv_6.b.size (fun g hg => Nat.le_trans iv0.b.size (own_lt9 own_6 g hg).1)
      have x_7 := x_6.grown hg_7 (fun e => by have q1 := (own_lt9 own_6 _ e.symm).1; have q2 := x0.lt; omega)
      have y_7 := y_6.grown hg_7 (fun e => by have q1 := (own_lt9 own_6 _ e.symm).1; have q2 := y0.lt; omega)
      have q_7 := q_6.grown hg_7 (fun e => by first | (have e2 : some (W0.drew.heap.size + 1) = some W0.drew.heap.size := e; injection e2; omega) | (have e2 : some W0.drew.heap.size = some (W0.drew.heap.size + 1) := e; injection e2; omega))
      have sz_7 : W0.drew.heap.size ≤ W_7.heap.size := Nat.le_trans sz_6 hg_7.size
      refine hK.out _ _ (s1_of x_7 y_7) (fun hHeld2 => ?_)
      clear hK K hHeld; have hHeld := hHeld2; clear hHeld2
      try simp only [Act.put, List.setIfInBounds_toArray, List.set_cons_zero, List.set_cons_succ]
      refine wpAnyH_ready (rs := [5]) (by kernel_rfl) (by simp) ?_
      refine AllReadyH.cons (o := { dst := some 25, op := Op.call { callee := Callee.builtin Builtin.append, args := #[Operand.tmp 22, Operand.tmp 24], argTypes := #[35, 35] }, type := 35, pos := "top22.go:57", after := #[{ on := 2, ground := Ground.data }, { on := 4, ground := Ground.data }, { on := 2, ground := Ground.chain }], guard := none }) rfl (fun K hK => ?_) (AllReadyH.nil)
      refine wp_append_any _ (.tmp 22) (.tmp 24) 35 rfl W0.drew.heap.size 34 i0i _ 2 40 Try.underlying35 HI.out hz0 hz1 hz2 rfl (by decide) _ (0 + nL) _ rfl own_7 _ _ 1 1 (flatA [⟨z, A, n, c, l⟩]) rfl (one_reads q_7) (flatA_one _) (by unfold maxLen; omega) (by omega) sz_7 ?_
      intro v_8 W_8 own_8 hg_8 hat_8
      have iv_8 : BI w W_8 := Below.grown iv_7.b hg_8 iv_7.b.size (fun g hg => Nat.le_trans iv0.b.size (own_lt9 own_7 g hg).1)
      have x_8 := x_7.grown hg_8 (fun e => by have q1 := (own_lt9 own_7 _ e.symm).1; have q2 := x0.lt; omega)
      have y_8 := y_7.grown hg_8 (fun e => by have q1 := (own_lt9 own_7 _ e.symm).1; have q2 := y0.lt; omega)
      have sz_8 : W0.drew.heap.size ≤ W_8.heap.size := Nat.le_trans sz_7 hg_8.size
      rw [List.nil_append, ← flatA_app, Nat.zero_add] at own_8
      obtain ⟨g9, c9, e9, hc9⟩ := own_formg own_8 (by omega)
      subst e9
      refine hK.out _ _ (s1_of x_8 y_8) (fun hHeld2 => ?_)
      clear hK K hHeld; have hHeld := hHeld2; clear hHeld2
      try simp only [Act.put, List.setIfInBounds_toArray, List.set_cons_zero, List.set_cons_succ]
      refine wpAnyH_ready (rs := [6]) (by kernel_rfl) (by simp) ?_
      refine AllReadyH.cons (o := { dst := some 26, op := Op.call { callee := Callee.value (Operand.func 19), args := #[Operand.tmp 25], argTypes := #[35] }, type := 3, pos := "top22.go:57", after := #[{ on := 5, ground := Ground.data }, { on := 5, ground := Ground.chain }], guard := none }) rfl (fun K hK => ?_) (AllReadyH.nil)
      go_simp
      refine (hsm _ _ _ (ars_app rfl own_8 hL hA0 iv_8)).mono ?_; rintro e w_9 ⟨rfl, hb_9⟩
      have iv_9 := iv_8.call hb_9; have x_9 := x_8.below hb_9 x_8.lt; have y_9 := y_8.below hb_9 y_8.lt
      try go_wp2_with fail
      refine hK.out _ _ (s1_of x_9 y_9) (fun hHeld2 => ?_)
      clear hK K hHeld; have hHeld := hHeld2; clear hHeld2
      try simp only [Act.put, List.setIfInBounds_toArray, List.set_cons_zero, List.set_cons_succ]
      refine wpAnyH_take (i := 7) (oi := { dst := some 27, op := Op.binOp BinOp.eql 3 (Operand.tmp 26) (Operand.const (Value.int IntKind.i64 0)) 3, type := 4, pos := "top22.go:57", after := #[{ on := 6, ground := Ground.data }], guard := none }) (v := ?_) rfl (by kernel_rfl) (by kernel_rfl) (by kernel_rfl) (fun _ _ _ h => h) (Or.inl ⟨by rfl, ?_⟩) hHeld ?_
      rotate_left
      · intro w hSw
        try dsimp only at hSw
        go_simp
        try with_reducible rfl
      try simp only [Act.put, List.setIfInBounds_toArray, List.set_cons_zero, List.set_cons_succ]
      refine wpAnyH_done (by kernel_rfl) ?_ _
      clear hHeld
      go_wp2_with fail
      go_ret
      exact ⟨rfl, iv_9⟩
  · skip
    go_simp
    have q_10 := Blk.new (W0.drew) 34 (arA z A n c)
    have iv_10 := iv0.alloc (.cells (arA z A n c) 34)
    have x_10 := x0.alloc (.cells (arA z A n c) 34)
    have y_10 := y0.alloc (.cells (arA z A n c) 34)
    have sz_10 : W0.drew.heap.size ≤ ((W0.drew).alloc (.cells (arA z A n c) 34)).heap.size := by rw [sz1 _ _ rfl]; exact Nat.le_succ_of_le (Nat.le_refl W0.drew.heap.size)
    refine hK.out _ _ (s1_of x_10 y_10) (fun hHeld2 => ?_)
    clear hK K hHeld; have hHeld := hHeld2; clear hHeld2
    try simp only [Act.put, List.setIfInBounds_toArray, List.set_cons_zero, List.set_cons_succ]
    refine wpAnyH_ready (rs := [0]) (by kernel_rfl) (by simp) ?_
    refine AllReadyH.cons (o := { dst := some 20, op := Op.buildSlice 35 0 #[], type := 35, pos := "top22.go:57", after := #[], guard := none }) rfl (fun K hK => ?_) (AllReadyH.nil)
    go_simp
    have own_11 := own_xA (base := W0.drew.heap.size) ((W0.drew).alloc (.cells (arA z A n c) 34)) sz_10
    rw [sz1 W0.drew _ rfl] at own_11
    have q_11 := q_10.alloc (.cells (#[] : Array Value) 34)
    have iv_11 := iv_10.alloc (.cells (#[] : Array Value) 34)
    have x_11 := x_10.alloc (.cells (#[] : Array Value) 34)
    have y_11 := y_10.alloc (.cells (#[] : Array Value) 34)
    have sz_11 : W0.drew.heap.size ≤ (((W0.drew).alloc (.cells (arA z A n c) 34)).alloc (.cells (#[] : Array Value) 34)).heap.size := by rw [sz1 _ _ rfl]; exact Nat.le_succ_of_le sz_10
    refine hK.out _ _ (s1_of x_11 y_11) (fun hHeld2 => ?_)
    clear hK K hHeld; have hHeld := hHeld2; clear hHeld2
    try simp only [Act.put, List.setIfInBounds_toArray, List.set_cons_zero, List.set_cons_succ]
    refine wpAnyH_ready (rs := [2]) (by kernel_rfl) (by simp) ?_
    refine AllReadyH.cons (o := { dst := some 22, op := Op.call { callee := Callee.builtin Builtin.append, args := #[Operand.tmp 20, Operand.tmp 21], argTypes := #[35, 35] }, type := 35, pos := "top22.go:57", after := #[{ on := 0, ground := Ground.data }, { on := 1, ground := Ground.data }], guard := none }) rfl (fun K hK => ?_) (AllReadyH.nil)
    refine wp_append_any _ (.tmp 20) (.tmp 21) 35 rfl W0.drew.heap.size 34 i0i _ 2 40 Try.underlying35 HI.out hz0 hz1 hz2 rfl (by decide) _ 0 _ rfl own_11 _ _ nL cL (flatA L) rfl (hL.below iv_11.b).r (flatA_one L) (by unfold maxLen; omega) (by omega) sz_11 ?_
    intro v_12 W_12 own_12 hg_12 hat_12
    have iv_12 : BI w W_12 := Below.grown iv_11.b hg_12 iv_11.b.size (fun g hg => Nat.le_trans iv0.b.size (own_lt9 own_11 g hg).1)
    have x_12 := x_11.grown hg_12 (fun e => by have q1 := (own_lt9 own_11 _ e.symm).1; have q2 := x0.lt; omega)
    have y_12 := y_11.grown hg_12 (fun e => by have q1 := (own_lt9 own_11 _ e.symm).1; have q2 := y0.lt; omega)
    have q_12 := q_11.grown hg_12 (fun e => by first | (have e2 : some (W0.drew.heap.size + 1) = some W0.drew.heap.size := e; injection e2; omega) | (have e2 : some W0.drew.heap.size = some (W0.drew.heap.size + 1) := e; injection e2; omega))
    have sz_12 : W0.drew.heap.size ≤ W_12.heap.size := Nat.le_trans sz_11 hg_12.size
    refine hK.out _ _ (s1_of x_12 y_12) (fun hHeld2 => ?_)
    clear hK K hHeld; have hHeld := hHeld2; clear hHeld2
    try simp only [Act.put, List.setIfInBounds_toArray, List.set_cons_zero, List.set_cons_succ]
    refine wpAnyH_ready (rs := [5]) (by kernel_rfl) (by simp) ?_
    refine AllReadyH.cons (o := { dst := some 25, op := Op.call { callee := Callee.builtin Builtin.append, args := #[Operand.tmp 22, Operand.tmp 24], argTypes := #[35, 35] }, type := 35, pos := "top22.go:57", after := #[{ on := 2, ground := Ground.data }, { on := 4, ground := Ground.data }, { on := 2, ground := Ground.chain }], guard := none }) rfl (fun K hK => ?_) (AllReadyH.nil)
    refine wp_append_any _ (.tmp 22) (.tmp 24) 35 rfl W0.drew.heap.size 34 i0i _ 2 40 Try.underlying35 HI.out hz0 hz1 hz2 rfl (by decide) _ (0 + nL) _ rfl own_12 _ _ 1 1 (flatA [⟨z, A, n, c, l⟩]) rfl (one_reads q_12) (flatA_one _) (by unfold maxLen; omega) (by omega) sz_12 ?_
    intro v_13 W_13 own_13 hg_13 hat_13
    have iv_13 : BI w W_13 := Below.grown iv_12.b hg_13 iv_12.b.size (fun g hg => Nat.le_trans iv0.b.size (own_lt9 own_12 g hg).1)
    have x_13 := x_12.grown hg_13 (fun e => by have q1 := (own_lt9 own_12 _ e.symm).1; have q2 := x0.lt; omega)
    have y_13 := y_12.grown hg_13 (fun e => by have q1 := (own_lt9 own_12 _ e.symm).1; have q2 := y0.lt; omega)
    have sz_13 : W0.drew.heap.size ≤ W_13.heap.size := Nat.le_trans sz_12 hg_13.size
    rw [List.nil_append, ← flatA_app, Nat.zero_add] at own_13
    obtain ⟨g9, c9, e9, hc9⟩ := own_formg own_13 (by omega)
    subst e9
    refine hK.out _ _ (s1_of x_13 y_13) (fun hHeld2 => ?_)
    clear hK K hHeld; have hHeld := hHeld2; clear hHeld2
    try simp only [Act.put, List.setIfInBounds_toArray, List.set_cons_zero, List.set_cons_succ]
    refine wpAnyH_ready (rs := [6]) (by kernel_rfl) (by simp) ?_
    refine AllReadyH.cons (o := { dst := some 26, op := Op.call { callee := Callee.value (Operand.func 19), args := #[Operand.tmp 25], argTypes := #[35] }, type := 3, pos := "top22.go:57", after := #[{ on := 5, ground := Ground.data }, { on := 5, ground := Ground.chain }], guard := none }) rfl (fun K hK => ?_) (AllReadyH.nil)
    go_simp
    refine (hsm _ _ _ (ars_app rfl own_13 hL hA0 iv_13)).mono ?_; rintro e w_14 ⟨rfl, hb_14⟩
    have iv_14 := iv_13.call hb_14; have x_14 := x_13.below hb_14 x_13.lt; have y_14 := y_13.below hb_14 y_13.lt
    try go_wp2_with fail
    refine hK.out _ _ (s1_of x_14 y_14) (fun hHeld2 => ?_)
    clear hK K hHeld; have hHeld := hHeld2; clear hHeld2
    try simp only [Act.put, List.setIfInBounds_toArray, List.set_cons_zero, List.set_cons_succ]
    refine wpAnyH_take (i := 7) (oi := { dst := some 27, op := Op.binOp BinOp.eql 3 (Operand.tmp 26) (Operand.const (Value.int IntKind.i64 0)) 3, type := 4, pos := "top22.go:57", after := #[{ on := 6, ground := Ground.data }], guard := none }) (v := ?_) rfl (by kernel_rfl) (by kernel_rfl) (by kernel_rfl) (fun _ _ _ h => h) (Or.inl ⟨by rfl, ?_⟩) hHeld ?_
    rotate_left
    · intro w hSw
      try dsimp only at hSw
      go_simp
      try with_reducible rfl
    try simp only [Act.put, List.setIfInBounds_toArray, List.set_cons_zero, List.set_cons_succ]
    refine wpAnyH_done (by kernel_rfl) ?_ _
    clear hHeld
    go_wp2_with fail
    go_ret
    exact ⟨rfl, iv_14⟩
set_option maxRecDepth 100000 in
set_option maxHeartbeats 12800000 in
theorem held_main (AL : Option Addr) (nL cL : Nat) (L : List Ae) (p : P2) (z : ByteArray) (A : Option Addr) (n c : Nat) (l : List P2) (w : World) (hz : z.size ≤ maxLen) (hR : Pts w w.heap.size A n l) (hm : n ≤ maxLen) (hL : Ars w w.heap.size AL nL L) (hby : nL * 40 ≤ 140737488351232) (hs : smV (L ++ [⟨z, A, n, c, l⟩]) = true) :
    Calls Try.prog 11 #[.slice AL nL cL, p.V, arV z A n c] w fun e w' => e = .returned (.bool true) ∧ Below w.heap.size w w' := by
  have i1 := ((BI.start w).alloc (.cells p.A 23)).alloc (.cells (arA z A n c) 34)
  have y1 := (Blk.new w 23 p.A).alloc (.cells (arA z A n c) 34)
  have x1 := blk_at (w.alloc (.cells p.A 23)) 34 (arA z A n c) (sz1 _ _ rfl)
  have hA0 : Pts w w.heap.size A n l ∧ z.size ≤ maxLen ∧ n ≤ maxLen := ⟨hR, hz, hm⟩
  have hsm := fun (W : World) (A9 : Option Addr) (N c9 : Nat) (h : Ars W W.heap.size A9 N (L ++ [⟨z, A, n, c, l⟩])) => small_any A9 N c9 (L ++ [⟨z, A, n, c, l⟩]) W h
  rw [hs] at hsm
  simp only [if_true] at hsm
  obtain ⟨i0i, hi0', hz0, hz1, hz2⟩ := info_parts ar_info
  have HI := Lib.hid hi0'
  have hnm : nL + 1 ≤ 3518437208884 := by omega
  replace hsm := fun (W : World) (A9 : Option Addr) (c9 : Nat) (h : Ars W W.heap.size A9 (nL + 1) (L ++ [⟨z, A, n, c, l⟩])) => hsm W A9 (nL + 1) c9 h (by unfold maxLen; omega)
  clear hi0' hs
  go_enter Try.func11, Try.ntmps11
  go_wp2_with fail
  refine (begins22_any _).mono ?_; rintro e w2 ⟨rfl, hb2⟩
  have i2 := i1.call hb2; have x2 := x1.below hb2 x1.lt; have y2 := y1.below hb2 y1.lt
  clear i1 x1 y1 hb2
  go_upto_region 3 with fail
  obtain ⟨W0, rfl⟩ : ∃ W0 : World, W0 = w2 := ⟨_, rfl⟩
  have x0 : Blk W0.drew (w.heap.size + 1) 34 (arA z A n c) := x2
  have y0 : Blk W0.drew w.heap.size 23 p.A := y2
  have iv0 : BI w W0.drew := i2.drew
  clear x2 y2 i2
  go_cut [27] (fun v wx => v = .bool false ∧ BI w wx ∧ Blk wx (w.heap.size + 1) 34 (arA z A n c) ∧ Blk wx w.heap.size 23 p.A)
  case first =>
    refine wp_region_held_drew (S := fun w' => Blk w' (w.heap.size + 1) 34 (arA z A n c) ∧ ldT 34 (.pointer (some ⟨w.heap.size + 1, 0, none⟩)) w' = some (arA z A n c) ∧ Blk w' w.heap.size 23 p.A ∧ ldT 23 (.pointer (some ⟨w.heap.size, 0, none⟩)) w' = some p.A) (by kernel_rfl) (s1_of x0 y0) (fun hHeld => ?_)
    refine wpAnyH_take (i := 1) (oi := { dst := some 21, op := Op.move (Operand.tmp 0), type := 35, pos := "top22.go:57", after := #[], guard := none }) (v := ?_) rfl (by kernel_rfl) (by kernel_rfl) (by kernel_rfl) (fun _ _ _ h => h) (Or.inl ⟨by rfl, ?_⟩) hHeld ?_
    rotate_left
    · intro w hSw
      try dsimp only at hSw
      go_simp
      try with_reducible rfl
    try simp only [Act.put, List.setIfInBounds_toArray, List.set_cons_zero, List.set_cons_succ]
    refine wpAnyH_take (i := 3) (oi := { dst := some 23, op := Op.load 34 (Operand.tmp 5), type := 34, pos := "top22.go:57", after := #[], guard := none }) (v := ?_) rfl (by kernel_rfl) (by kernel_rfl) (by kernel_rfl) (fun _ _ _ h => h) (Or.inl ⟨by rfl, ?_⟩) hHeld ?_
    rotate_left
    · intro w hSw
      try dsimp only at hSw
      go_simp
      try with_reducible rfl
    try simp only [Act.put, List.setIfInBounds_toArray, List.set_cons_zero, List.set_cons_succ]
    refine wpAnyH_ready (rs := [0, 4]) (by kernel_rfl) (by simp) ?_
    refine AllReadyH.cons (o := { dst := some 20, op := Op.buildSlice 35 0 #[], type := 35, pos := "top22.go:57", after := #[], guard := none }) rfl (fun K hK => ?_) (AllReadyH.cons (o := { dst := some 24, op := Op.buildSlice 35 1 #[(0, Operand.tmp 23)], type := 35, pos := "top22.go:57", after := #[{ on := 3, ground := Ground.data }], guard := none }) rfl (fun K hK => ?_) (AllReadyH.nil))
    · skip
      go_simp
      have own_1 := own_xA (base := W0.drew.heap.size) (W0.drew) (Nat.le_refl W0.drew.heap.size)
      have iv_1 := iv0.alloc (.cells (#[] : Array Value) 34)
      have x_1 := x0.alloc (.cells (#[] : Array Value) 34)
      have y_1 := y0.alloc (.cells (#[] : Array Value) 34)
      have sz_1 : W0.drew.heap.size ≤ ((W0.drew).alloc (.cells (#[] : Array Value) 34)).heap.size := by rw [sz1 _ _ rfl]; exact Nat.le_succ_of_le (Nat.le_refl W0.drew.heap.size)
      refine hK.out _ _ (s1_of x_1 y_1) (fun hHeld2 => ?_)
      clear hK K hHeld; have hHeld := hHeld2; clear hHeld2
      try simp only [Act.put, List.setIfInBounds_toArray, List.set_cons_zero, List.set_cons_succ]
      refine wpAnyH_ready (rs := [2, 4]) (by kernel_rfl) (by simp) ?_
      refine AllReadyH.cons (o := { dst := some 22, op := Op.call { callee := Callee.builtin Builtin.append, args := #[Operand.tmp 20, Operand.tmp 21], argTypes := #[35, 35] }, type := 35, pos := "top22.go:57", after := #[{ on := 0, ground := Ground.data }, { on := 1, ground := Ground.data }], guard := none }) rfl (fun K hK => ?_) (AllReadyH.cons (o := { dst := some 24, op := Op.buildSlice 35 1 #[(0, Operand.tmp 23)], type := 35, pos := "top22.go:57", after := #[{ on := 3, ground := Ground.data }], guard := none }) rfl (fun K hK => ?_) (AllReadyH.nil))
      · skip
        refine wp_append_any _ (.tmp 20) (.tmp 21) 35 rfl W0.drew.heap.size 34 i0i _ 2 40 Try.underlying35 HI.out hz0 hz1 hz2 rfl (by decide) _ 0 _ rfl own_1 _ _ nL cL (flatA L) rfl (hL.below iv_1.b).r (flatA_one L) (by unfold maxLen; omega) (by omega) sz_1 ?_
        intro v_2 W_2 own_2 hg_2 hat_2
        have iv_2 : BI w W_2 := Below.grown iv_1.b hg_2 iv_1.b.size (fun g hg => Nat.le_trans iv0.b.size (own_lt9 own_1 g hg).1)
        have x_2 := x_1.grown hg_2 (fun e => by have q1 := (own_lt9 own_1 _ e.symm).1; have q2 := x0.lt; omega)
        have y_2 := y_1.grown hg_2 (fun e => by have q1 := (own_lt9 own_1 _ e.symm).1; have q2 := y0.lt; omega)
        have sz_2 : W0.drew.heap.size ≤ W_2.heap.size := Nat.le_trans sz_1 hg_2.size
        refine hK.out _ _ (s1_of x_2 y_2) (fun hHeld2 => ?_)
        clear hK K hHeld; have hHeld := hHeld2; clear hHeld2
        try simp only [Act.put, List.setIfInBounds_toArray, List.set_cons_zero, List.set_cons_succ]
        refine wpAnyH_ready (rs := [4]) (by kernel_rfl) (by simp) ?_
        refine AllReadyH.cons (o := { dst := some 24, op := Op.buildSlice 35 1 #[(0, Operand.tmp 23)], type := 35, pos := "top22.go:57", after := #[{ on := 3, ground := Ground.data }], guard := none }) rfl (fun K hK => ?_) (AllReadyH.nil)
        go_simp
        have q_3 := Blk.new (W_2) 34 (arA z A n c)
        have own_3 := own_2.alloc (.cells (arA z A n c) 34)
        have iv_3 := iv_2.alloc (.cells (arA z A n c) 34)
        have x_3 := x_2.alloc (.cells (arA z A n c) 34)
        have y_3 := y_2.alloc (.cells (arA z A n c) 34)
        have sz_3 : W0.drew.heap.size ≤ ((W_2).alloc (.cells (arA z A n c) 34)).heap.size := by rw [sz1 _ _ rfl]; exact Nat.le_succ_of_le sz_2
        refine hK.out _ _ (s1_of x_3 y_3) (fun hHeld2 => ?_)
        clear hK K hHeld; have hHeld := hHeld2; clear hHeld2
        try simp only [Act.put, List.setIfInBounds_toArray, List.set_cons_zero, List.set_cons_succ]
        refine wpAnyH_ready (rs := [5]) (by kernel_rfl) (by simp) ?_
        refine AllReadyH.cons (o := { dst := some 25, op := Op.call { callee := Callee.builtin Builtin.append, args := #[Operand.tmp 22, Operand.tmp 24], argTypes := #[35, 35] }, type := 35, pos := "top22.go:57", after := #[{ on := 2, ground := Ground.data }, { on := 4, ground := Ground.data }, { on := 2, ground := Ground.chain }], guard := none }) rfl (fun K hK => ?_) (AllReadyH.nil)
        refine wp_append_any _ (.tmp 22) (.tmp 24) 35 rfl W0.drew.heap.size 34 i0i _ 2 40 Try.underlying35 HI.out hz0 hz1 hz2 rfl (by decide) _ (0 + nL) _ rfl own_3 _ _ 1 1 (flatA [⟨z, A, n, c, l⟩]) rfl (one_reads q_3) (flatA_one _) (by unfold maxLen; omega) (by omega) sz_3 ?_
        intro v_4 W_4 own_4 hg_4 hat_4
        have iv_4 : BI w W_4 := Below.grown iv_3.b hg_4 iv_3.b.size (fun g hg => Nat.le_trans iv0.b.size (own_lt9 own_3 g hg).1)
        have x_4 := x_3.grown hg_4 (fun e => by have q1 := (own_lt9 own_3 _ e.symm).1; have q2 := x0.lt; omega)
        have y_4 := y_3.grown hg_4 (fun e => by have q1 := (own_lt9 own_3 _ e.symm).1; have q2 := y0.lt; omega)
        have sz_4 : W0.drew.heap.size ≤ W_4.heap.size := Nat.le_trans sz_3 hg_4.size
        rw [List.nil_append, ← flatA_app, Nat.zero_add] at own_4
        obtain ⟨g9, c9, e9, hc9⟩ := own_formg own_4 (by omega)
        subst e9
        refine hK.out _ _ (s1_of x_4 y_4) (fun hHeld2 => ?_)
        clear hK K hHeld; have hHeld := hHeld2; clear hHeld2
        try simp only [Act.put, List.setIfInBounds_toArray, List.set_cons_zero, List.set_cons_succ]
        refine wpAnyH_ready (rs := [6]) (by kernel_rfl) (by simp) ?_
        refine AllReadyH.cons (o := { dst := some 26, op := Op.call { callee := Callee.value (Operand.func 19), args := #[Operand.tmp 25], argTypes := #[35] }, type := 3, pos := "top22.go:57", after := #[{ on := 5, ground := Ground.data }, { on := 5, ground := Ground.chain }], guard := none }) rfl (fun K hK => ?_) (AllReadyH.nil)
        go_simp
        refine (hsm _ _ _ (ars_app rfl own_4 hL hA0 iv_4)).mono ?_; rintro e w_5 ⟨rfl, hb_5⟩
        have iv_5 := iv_4.call hb_5; have x_5 := x_4.below hb_5 x_4.lt; have y_5 := y_4.below hb_5 y_4.lt
        try go_wp2_with fail
        refine hK.out _ _ (s1_of x_5 y_5) (fun hHeld2 => ?_)
        clear hK K hHeld; have hHeld := hHeld2; clear hHeld2
        try simp only [Act.put, List.setIfInBounds_toArray, List.set_cons_zero, List.set_cons_succ]
        refine wpAnyH_take (i := 7) (oi := { dst := some 27, op := Op.binOp BinOp.eql 3 (Operand.tmp 26) (Operand.const (Value.int IntKind.i64 0)) 3, type := 4, pos := "top22.go:57", after := #[{ on := 6, ground := Ground.data }], guard := none }) (v := ?_) rfl (by kernel_rfl) (by kernel_rfl) (by kernel_rfl) (fun _ _ _ h => h) (Or.inl ⟨by rfl, ?_⟩) hHeld ?_
        rotate_left
        · intro w hSw
          try dsimp only at hSw
          go_simp
          try with_reducible rfl
        try simp only [Act.put, List.setIfInBounds_toArray, List.set_cons_zero, List.set_cons_succ]
        refine wpAnyH_done (by kernel_rfl) ?_ _
        clear hHeld
        go_wp2_with fail
        go_meet
        exact ⟨rfl, iv_5, x_5, y_5⟩
      · skip
        go_simp
        have q_6 := blk_at ((W0.drew).alloc (.cells (#[] : Array Value) 34)) 34 (arA z A n c) (sz1 W0.drew _ rfl)
        have own_6 := own_1.alloc (.cells (arA z A n c) 34)
        have iv_6 := iv_1.alloc (.cells (arA z A n c) 34)
        have x_6 := x_1.alloc (.cells (arA z A n c) 34)
        have y_6 := y_1.alloc (.cells (arA z A n c) 34)
        have sz_6 : W0.drew.heap.size ≤ (((W0.drew).alloc (.cells (#[] : Array Value) 34)).alloc (.cells (arA z A n c) 34)).heap.size := by rw [sz1 _ _ rfl]; exact Nat.le_succ_of_le sz_1
        refine hK.out _ _ (s1_of x_6 y_6) (fun hHeld2 => ?_)
        clear hK K hHeld; have hHeld := hHeld2; clear hHeld2
        try simp only [Act.put, List.setIfInBounds_toArray, List.set_cons_zero, List.set_cons_succ]
        refine wpAnyH_ready (rs := [2]) (by kernel_rfl) (by simp) ?_
        refine AllReadyH.cons (o := { dst := some 22, op := Op.call { callee := Callee.builtin Builtin.append, args := #[Operand.tmp 20, Operand.tmp 21], argTypes := #[35, 35] }, type := 35, pos := "top22.go:57", after := #[{ on := 0, ground := Ground.data }, { on := 1, ground := Ground.data }], guard := none }) rfl (fun K hK => ?_) (AllReadyH.nil)
        refine wp_append_any _ (.tmp 20) (.tmp 21) 35 rfl W0.drew.heap.size 34 i0i _ 2 40 Try.underlying35 HI.out hz0 hz1 hz2 rfl (by decide) _ 0 _ rfl own_6 _ _ nL cL (flatA L) rfl (hL.below iv_6.b).r (flatA_one L) (by unfold maxLen; omega) (by omega) sz_6 ?_
        intro v_7 W_7 own_7 hg_7 hat_7
        have iv_7 : BI w W_7 := Below.grown iv_6.b hg_7 iv_6.b.size (fun g hg => Nat.le_trans iv0.b.size (own_lt9 own_6 g hg).1)
        have x_7 := x_6.grown hg_7 (fun e => by have q1 := (own_lt9 own_6 _ e.symm).1; have q2 := x0.lt; omega)
        have y_7 := y_6.grown hg_7 (fun e => by have q1 := (own_lt9 own_6 _ e.symm).1; have q2 := y0.lt; omega)
        have q_7 := q_6.grown hg_7 (fun e => by first | (have e2 : some (W0.drew.heap.size + 1) = some W0.drew.heap.size := e; injection e2; omega) | (have e2 : some W0.drew.heap.size = some (W0.drew.heap.size + 1) := e; injection e2; omega))
        have sz_7 : W0.drew.heap.size ≤ W_7.heap.size := Nat.le_trans sz_6 hg_7.size
        refine hK.out _ _ (s1_of x_7 y_7) (fun hHeld2 => ?_)
        clear hK K hHeld; have hHeld := hHeld2; clear hHeld2
        try simp only [Act.put, List.setIfInBounds_toArray, List.set_cons_zero, List.set_cons_succ]
        refine wpAnyH_ready (rs := [5]) (by kernel_rfl) (by simp) ?_
        refine AllReadyH.cons (o := { dst := some 25, op := Op.call { callee := Callee.builtin Builtin.append, args := #[Operand.tmp 22, Operand.tmp 24], argTypes := #[35, 35] }, type := 35, pos := "top22.go:57", after := #[{ on := 2, ground := Ground.data }, { on := 4, ground := Ground.data }, { on := 2, ground := Ground.chain }], guard := none }) rfl (fun K hK => ?_) (AllReadyH.nil)
        refine wp_append_any _ (.tmp 22) (.tmp 24) 35 rfl W0.drew.heap.size 34 i0i _ 2 40 Try.underlying35 HI.out hz0 hz1 hz2 rfl (by decide) _ (0 + nL) _ rfl own_7 _ _ 1 1 (flatA [⟨z, A, n, c, l⟩]) rfl (one_reads q_7) (flatA_one _) (by unfold maxLen; omega) (by omega) sz_7 ?_
        intro v_8 W_8 own_8 hg_8 hat_8
        have iv_8 : BI w W_8 := Below.grown iv_7.b hg_8 iv_7.b.size (fun g hg => Nat.le_trans iv0.b.size (own_lt9 own_7 g hg).1)
        have x_8 := x_7.grown hg_8 (fun e => by have q1 := (own_lt9 own_7 _ e.symm).1; have q2 := x0.lt; omega)
        have y_8 := y_7.grown hg_8 (fun e => by have q1 := (own_lt9 own_7 _ e.symm).1; have q2 := y0.lt; omega)
        have sz_8 : W0.drew.heap.size ≤ W_8.heap.size := Nat.le_trans sz_7 hg_8.size
        rw [List.nil_append, ← flatA_app, Nat.zero_add] at own_8
        obtain ⟨g9, c9, e9, hc9⟩ := own_formg own_8 (by omega)
        subst e9
        refine hK.out _ _ (s1_of x_8 y_8) (fun hHeld2 => ?_)
        clear hK K hHeld; have hHeld := hHeld2; clear hHeld2
        try simp only [Act.put, List.setIfInBounds_toArray, List.set_cons_zero, List.set_cons_succ]
        refine wpAnyH_ready (rs := [6]) (by kernel_rfl) (by simp) ?_
        refine AllReadyH.cons (o := { dst := some 26, op := Op.call { callee := Callee.value (Operand.func 19), args := #[Operand.tmp 25], argTypes := #[35] }, type := 3, pos := "top22.go:57", after := #[{ on := 5, ground := Ground.data }, { on := 5, ground := Ground.chain }], guard := none }) rfl (fun K hK => ?_) (AllReadyH.nil)
        go_simp
        refine (hsm _ _ _ (ars_app rfl own_8 hL hA0 iv_8)).mono ?_; rintro e w_9 ⟨rfl, hb_9⟩
        have iv_9 := iv_8.call hb_9; have x_9 := x_8.below hb_9 x_8.lt; have y_9 := y_8.below hb_9 y_8.lt
        try go_wp2_with fail
        refine hK.out _ _ (s1_of x_9 y_9) (fun hHeld2 => ?_)
        clear hK K hHeld; have hHeld := hHeld2; clear hHeld2
        try simp only [Act.put, List.setIfInBounds_toArray, List.set_cons_zero, List.set_cons_succ]
        refine wpAnyH_take (i := 7) (oi := { dst := some 27, op := Op.binOp BinOp.eql 3 (Operand.tmp 26) (Operand.const (Value.int IntKind.i64 0)) 3, type := 4, pos := "top22.go:57", after := #[{ on := 6, ground := Ground.data }], guard := none }) (v := ?_) rfl (by kernel_rfl) (by kernel_rfl) (by kernel_rfl) (fun _ _ _ h => h) (Or.inl ⟨by rfl, ?_⟩) hHeld ?_
        rotate_left
        · intro w hSw
          try dsimp only at hSw
          go_simp
          try with_reducible rfl
        try simp only [Act.put, List.setIfInBounds_toArray, List.set_cons_zero, List.set_cons_succ]
        refine wpAnyH_done (by kernel_rfl) ?_ _
        clear hHeld
        go_wp2_with fail
        go_meet
        exact ⟨rfl, iv_9, x_9, y_9⟩
    · skip
      go_simp
      have q_10 := Blk.new (W0.drew) 34 (arA z A n c)
      have iv_10 := iv0.alloc (.cells (arA z A n c) 34)
      have x_10 := x0.alloc (.cells (arA z A n c) 34)
      have y_10 := y0.alloc (.cells (arA z A n c) 34)
      have sz_10 : W0.drew.heap.size ≤ ((W0.drew).alloc (.cells (arA z A n c) 34)).heap.size := by rw [sz1 _ _ rfl]; exact Nat.le_succ_of_le (Nat.le_refl W0.drew.heap.size)
      refine hK.out _ _ (s1_of x_10 y_10) (fun hHeld2 => ?_)
      clear hK K hHeld; have hHeld := hHeld2; clear hHeld2
      try simp only [Act.put, List.setIfInBounds_toArray, List.set_cons_zero, List.set_cons_succ]
      refine wpAnyH_ready (rs := [0]) (by kernel_rfl) (by simp) ?_
      refine AllReadyH.cons (o := { dst := some 20, op := Op.buildSlice 35 0 #[], type := 35, pos := "top22.go:57", after := #[], guard := none }) rfl (fun K hK => ?_) (AllReadyH.nil)
      go_simp
      have own_11 := own_xA (base := W0.drew.heap.size) ((W0.drew).alloc (.cells (arA z A n c) 34)) sz_10
      rw [sz1 W0.drew _ rfl] at own_11
      have q_11 := q_10.alloc (.cells (#[] : Array Value) 34)
      have iv_11 := iv_10.alloc (.cells (#[] : Array Value) 34)
      have x_11 := x_10.alloc (.cells (#[] : Array Value) 34)
      have y_11 := y_10.alloc (.cells (#[] : Array Value) 34)
      have sz_11 : W0.drew.heap.size ≤ (((W0.drew).alloc (.cells (arA z A n c) 34)).alloc (.cells (#[] : Array Value) 34)).heap.size := by rw [sz1 _ _ rfl]; exact Nat.le_succ_of_le sz_10
      refine hK.out _ _ (s1_of x_11 y_11) (fun hHeld2 => ?_)
      clear hK K hHeld; have hHeld := hHeld2; clear hHeld2
      try simp only [Act.put, List.setIfInBounds_toArray, List.set_cons_zero, List.set_cons_succ]
      refine wpAnyH_ready (rs := [2]) (by kernel_rfl) (by simp) ?_
      refine AllReadyH.cons (o := { dst := some 22, op := Op.call { callee := Callee.builtin Builtin.append, args := #[Operand.tmp 20, Operand.tmp 21], argTypes := #[35, 35] }, type := 35, pos := "top22.go:57", after := #[{ on := 0, ground := Ground.data }, { on := 1, ground := Ground.data }], guard := none }) rfl (fun K hK => ?_) (AllReadyH.nil)
      refine wp_append_any _ (.tmp 20) (.tmp 21) 35 rfl W0.drew.heap.size 34 i0i _ 2 40 Try.underlying35 HI.out hz0 hz1 hz2 rfl (by decide) _ 0 _ rfl own_11 _ _ nL cL (flatA L) rfl (hL.below iv_11.b).r (flatA_one L) (by unfold maxLen; omega) (by omega) sz_11 ?_
      intro v_12 W_12 own_12 hg_12 hat_12
      have iv_12 : BI w W_12 := Below.grown iv_11.b hg_12 iv_11.b.size (fun g hg => Nat.le_trans iv0.b.size (own_lt9 own_11 g hg).1)
      have x_12 := x_11.grown hg_12 (fun e => by have q1 := (own_lt9 own_11 _ e.symm).1; have q2 := x0.lt; omega)
      have y_12 := y_11.grown hg_12 (fun e => by have q1 := (own_lt9 own_11 _ e.symm).1; have q2 := y0.lt; omega)
      have q_12 := q_11.grown hg_12 (fun e => by first | (have e2 : some (W0.drew.heap.size + 1) = some W0.drew.heap.size := e; injection e2; omega) | (have e2 : some W0.drew.heap.size = some (W0.drew.heap.size + 1) := e; injection e2; omega))
      have sz_12 : W0.drew.heap.size ≤ W_12.heap.size := Nat.le_trans sz_11 hg_12.size
      refine hK.out _ _ (s1_of x_12 y_12) (fun hHeld2 => ?_)
      clear hK K hHeld; have hHeld := hHeld2; clear hHeld2
      try simp only [Act.put, List.setIfInBounds_toArray, List.set_cons_zero, List.set_cons_succ]
      refine wpAnyH_ready (rs := [5]) (by kernel_rfl) (by simp) ?_
      refine AllReadyH.cons (o := { dst := some 25, op := Op.call { callee := Callee.builtin Builtin.append, args := #[Operand.tmp 22, Operand.tmp 24], argTypes := #[35, 35] }, type := 35, pos := "top22.go:57", after := #[{ on := 2, ground := Ground.data }, { on := 4, ground := Ground.data }, { on := 2, ground := Ground.chain }], guard := none }) rfl (fun K hK => ?_) (AllReadyH.nil)
      refine wp_append_any _ (.tmp 22) (.tmp 24) 35 rfl W0.drew.heap.size 34 i0i _ 2 40 Try.underlying35 HI.out hz0 hz1 hz2 rfl (by decide) _ (0 + nL) _ rfl own_12 _ _ 1 1 (flatA [⟨z, A, n, c, l⟩]) rfl (one_reads q_12) (flatA_one _) (by unfold maxLen; omega) (by omega) sz_12 ?_
      intro v_13 W_13 own_13 hg_13 hat_13
      have iv_13 : BI w W_13 := Below.grown iv_12.b hg_13 iv_12.b.size (fun g hg => Nat.le_trans iv0.b.size (own_lt9 own_12 g hg).1)
      have x_13 := x_12.grown hg_13 (fun e => by have q1 := (own_lt9 own_12 _ e.symm).1; have q2 := x0.lt; omega)
      have y_13 := y_12.grown hg_13 (fun e => by have q1 := (own_lt9 own_12 _ e.symm).1; have q2 := y0.lt; omega)
      have sz_13 : W0.drew.heap.size ≤ W_13.heap.size := Nat.le_trans sz_12 hg_13.size
      rw [List.nil_append, ← flatA_app, Nat.zero_add] at own_13
      obtain ⟨g9, c9, e9, hc9⟩ := own_formg own_13 (by omega)
      subst e9
      refine hK.out _ _ (s1_of x_13 y_13) (fun hHeld2 => ?_)
      clear hK K hHeld; have hHeld := hHeld2; clear hHeld2
      try simp only [Act.put, List.setIfInBounds_toArray, List.set_cons_zero, List.set_cons_succ]
      refine wpAnyH_ready (rs := [6]) (by kernel_rfl) (by simp) ?_
      refine AllReadyH.cons (o := { dst := some 26, op := Op.call { callee := Callee.value (Operand.func 19), args := #[Operand.tmp 25], argTypes := #[35] }, type := 3, pos := "top22.go:57", after := #[{ on := 5, ground := Ground.data }, { on := 5, ground := Ground.chain }], guard := none }) rfl (fun K hK => ?_) (AllReadyH.nil)
      go_simp
      refine (hsm _ _ _ (ars_app rfl own_13 hL hA0 iv_13)).mono ?_; rintro e w_14 ⟨rfl, hb_14⟩
      have iv_14 := iv_13.call hb_14; have x_14 := x_13.below hb_14 x_13.lt; have y_14 := y_13.below hb_14 y_13.lt
      try go_wp2_with fail
      refine hK.out _ _ (s1_of x_14 y_14) (fun hHeld2 => ?_)
      clear hK K hHeld; have hHeld := hHeld2; clear hHeld2
      try simp only [Act.put, List.setIfInBounds_toArray, List.set_cons_zero, List.set_cons_succ]
      refine wpAnyH_take (i := 7) (oi := { dst := some 27, op := Op.binOp BinOp.eql 3 (Operand.tmp 26) (Operand.const (Value.int IntKind.i64 0)) 3, type := 4, pos := "top22.go:57", after := #[{ on := 6, ground := Ground.data }], guard := none }) (v := ?_) rfl (by kernel_rfl) (by kernel_rfl) (by kernel_rfl) (fun _ _ _ h => h) (Or.inl ⟨by rfl, ?_⟩) hHeld ?_
      rotate_left
      · intro w hSw
        try dsimp only at hSw
        go_simp
        try with_reducible rfl
      try simp only [Act.put, List.setIfInBounds_toArray, List.set_cons_zero, List.set_cons_succ]
      refine wpAnyH_done (by kernel_rfl) ?_ _
      clear hHeld
      go_wp2_with fail
      go_meet
      exact ⟨rfl, iv_14, x_14, y_14⟩
  case rest =>
  clear x0 y0 iv0 hsm
  obtain ⟨rfl, i3, x3, y3⟩ := hcut
  obtain ⟨W3, rfl⟩ : ∃ W : World, W = wc := ⟨_, rfl⟩
  have hnL : nL ≤ maxLen := by unfold maxLen; omega
  have hzo := fun W (i : BI w W) => zone_any AL nL cL L p W ((hL.below i.b).more i.b.size) hnL
  cases hok : (p.ok && alB L)
  · obtain ⟨z1, z2⟩ := zo_no hok
    rw [z1, z2] at hzo
    clear hok z1 z2
    go_wp2_with (first | refine wpList_row_g rfl 23 _ rfl _ rfl _ _ _ _ y3 Try.underlying23 rfl (by kernel_rfl) ?_)
    refine (hzo _ i3).mono ?_; rintro e w4 ⟨rfl, hb4⟩
    have i4 := i3.call hb4
    go_wp2_with fail
    go_ret
    exact ⟨rfl, i4⟩
  rw [Bool.and_eq_true] at hok
  obtain ⟨hpk, hal⟩ := hok
  have HPK := Lib.hid hpk; have HAL := Lib.hid hal
  have HS := Lib.hid (fun (a : Ae) h => zo_some (L := L) (p := p) (a := a) (by rw [hpk, hal]; rfl) h)
  have HN := Lib.hid (fun h => zo_none (L := L) (p := p) (by rw [hpk, hal]; rfl) h)
  have HE := Lib.hid (show (fiK L p nL = true ∧ zoE L p = 0) ∨ (fiK L p nL = false ∧ zoE L p = 3) by
    have e : fiK L p nL = (fiA L p).isSome := by unfold fiK; rw [List.take_of_length_le (Nat.le_of_eq hL.len)]
    rw [e]
    cases hf : fiA L p
    · exact .inr ⟨rfl, (HN.out hf).2⟩
    · exact .inl ⟨rfl, (HS.out _ hf).2⟩)
  clear hpk hal
  have HZS := Lib.hid (show zoS L p = zoS L p from rfl)
  generalize hZS : zoS L p = ZS at *
  generalize hZE : zoE L p = ZE at *
  have g2 : (ZE == 2) = false := by rcases HE.out with ⟨_, h⟩ | ⟨_, h⟩ <;> rw [h] <;> rfl
  have HFA := Lib.hid (show fiK L p nL = (fiA L p).isSome by unfold fiK; rw [List.take_of_length_le (Nat.le_of_eq hL.len)])
  clear HZS hZS hZE
  go_wp2_with (first | refine wpList_row_g rfl 23 _ rfl _ rfl _ _ _ _ y3 Try.underlying23 rfl (by kernel_rfl) ?_)
  refine (hzo _ i3).mono ?_; rintro e w4 ⟨rfl, hb4⟩
  have i4 := i3.call hb4; have x4 := x3.below hb4 x3.lt; have y4 := y3.below hb4 y3.lt
  clear i3 x3 y3 hb4 hzo
  go_wp2_with fail
  go_loopw [9, 40] (fun f i wr => ∃ k : Nat, i = .int .i64 k ∧ k ≤ nL ∧ f = .bool (fiK L p k) ∧ BI w wr ∧ Blk wr (w.heap.size + 1) 34 (arA z A n c) ∧ Blk wr w.heap.size 23 p.A) (fun _ i _ => nL - (intOf i).toNat)
  case atStart => exact ⟨0, rfl, Nat.zero_le _, rfl, i4, x4, y4⟩
  case round =>
    clear i4 x4 y4
    obtain ⟨k, rfl, hk, rfl, hb, hx, hy⟩ := hrel
    by_cases hlt : k < nL
    · have hlt' : (k : Int) < (nL : Int) := by omega
      have hll := hL.len
      obtain ⟨ad, rfl, hrow⟩ := (hL.below hb.b).row hlt
      have hpt := hL.p _ (ae_mem (show k < L.length by omega))
      have hok : arOk (ae_ L k).z (ae_ L k).l = true := by
        have := HAL.out; unfold alB at this
        exact List.all_eq_true.1 this _ (ae_mem (by omega))
      have HSt := Lib.hid (fun h => fiK_stay (L := L) (p := p) (k := k) (by omega) h)
      have HNo := Lib.hid (fun h hi => fiK_no (L := L) (p := p) (k := k) (by omega) h hi)
      have HYs := Lib.hid (fun h hi => fiK_yes (L := L) (p := p) (k := k) (by omega) h hi)
      obtain ⟨⟨az, aA, an, ac, al⟩, ha⟩ : ∃ a, ae_ L k = a := ⟨_, rfl⟩
      rw [ha] at hrow hpt hok HNo HYs
      have HZC := Lib.hid (fun j (hj : j < an) => zone_corner (a := ⟨az, aA, an, ac, al⟩) (k := j) hok (by show j < al.length; rw [show al.length = an from hpt.1.1]; exact hj))
      have hrt : rtB az al p = true := by unfold rtB; rw [HPK.out, hok]; rfl
      clear ha hok hll
      simp only at hrow hpt HNo HYs HZC
      have han : an ≤ 9223372036854775807 := by have := hpt.2.2; unfold maxLen at this; omega
      have i5 := hb.alloc (.cells (arA az aA an ac) 34); have x5 := hx.alloc (.cells (arA az aA an ac) 34); have y5 := hy.alloc (.cells (arA az aA an ac) 34); have ub5 := Blk.new wr 34 (arA az aA an ac)
      have hin := Inside_any az aA an ac al p _ hpt.2.1 (Pts.more (hpt.1.below i5.b) i5.b.size) hpt.2.2
      rw [hrt, Bool.true_and] at hin
      clear hb hx hy hrt
      cases hF : fiK L p k
      · cases hI : inB al p
        · rw [hI] at hin
          have HK1 := Lib.hid (show (Value.bool false) = .bool (fiK L p (k + 1)) by rw [HNo.out hF hI])
          clear hF hI HSt HNo HYs
          go_wp2_with (first | refine wpList_at_g rfl 34 _ rfl w.heap.size _ (arA az aA an ac) rfl _ hrow Try.underlying34 rfl (by kernel_rfl) ?_ | refine wpList_store_new rfl 34 _ _ rfl rfl wr.heap.size (arA az aA an ac) rfl rfl _ #[.string ByteArray.empty, .slice none 0 0] wr rfl rfl rfl (by kernel_rfl) (by kernel_rfl) ?_ | refine wpList_row_g rfl 34 _ rfl _ rfl _ _ _ _ ub5 Try.underlying34 rfl (by kernel_rfl) ?_ | refine wpList_row_g rfl 23 _ rfl _ rfl _ _ _ _ y5 Try.underlying23 rfl (by kernel_rfl) ?_)
          refine hin.mono ?_; rintro e w6 ⟨rfl, hb6⟩
          have i6 := i5.call hb6; have x6 := x5.below hb6 x5.lt; have y6 := y5.below hb6 y5.lt; have ub6 := ub5.below hb6 ub5.lt
          obtain ⟨ua, hua⟩ : ∃ u, u = wr.heap.size := ⟨_, rfl⟩
          rw [← hua] at ub6 ⊢
          clear i5 x5 y5 ub5 hb6 hin hrow hua
          have d2 : w6.cell? ⟨ua, 1, none⟩ = some (.slice aA an ac) := ub6.cell 1
          go_wp2_with fail
          go_loopw [58] (fun i wr => ∃ j : Nat, i = .int .i64 j ∧ j ≤ an ∧ BI w wr ∧ Blk wr (w.heap.size + 1) 34 (arA z A n c) ∧ Blk wr w.heap.size 23 p.A ∧ Blk wr ua 34 (arA az aA an ac)) (fun i _ => an - (intOf i).toNat)
          case atStart => exact ⟨0, rfl, Nat.zero_le _, i6, x6, y6, ub6⟩
          case round =>
            clear i6 x6 y6 ub6
            obtain ⟨j, rfl, hj, jv, jx, jy, ju⟩ := hrel
            by_cases hlt2 : j < an
            · have hlt2' : (j : Int) < (an : Int) := by omega
              obtain ⟨cd, rfl, hrow2⟩ := (hpt.1.below jv.b).row (k := j) hlt2 (by rw [hpt.1.1]; exact hlt2)
              rw [pt_eq] at hrow2
              obtain ⟨zc1, zc2⟩ := HZC.out j hlt2
              obtain ⟨q, hq⟩ : ∃ q, pt_ al j = q := ⟨_, rfl⟩
              rw [hq] at hrow2 zc1 zc2
              have ZC1 := Lib.hid zc1; have ZC2 := Lib.hid zc2
              clear zc1 zc2 hq
              have jv1 := jv.alloc (.cells q.A 23); have jx1 := jx.alloc (.cells q.A 23); have jy1 := jy.alloc (.cells q.A 23); have ju1 := ju.alloc (.cells q.A 23)
              have jq1 := Blk.new wr 23 q.A
              have d1 : wr.cell? ⟨ua, 1, none⟩ = some (.slice (some cd) an ac) := ju.cell 1
              have jv2 := jv1.alloc (.cells (arA az (some cd) an ac) 34); have jx2 := jx1.alloc (.cells (arA az (some cd) an ac) 34); have jy2 := jy1.alloc (.cells (arA az (some cd) an ac) 34); have ju2 := ju1.alloc (.cells (arA az (some cd) an ac) 34); have jq2 := jq1.alloc (.cells (arA az (some cd) an ac) 34)
              have jl2 := blk_at (wr.alloc (.cells q.A 23)) 34 (arA az (some cd) an ac) (sz1 _ _ rfl)
              have hzo := zone_any (some ⟨wr.heap.size + 1, 0, none⟩) 1 1 [⟨az, some cd, an, ac, al⟩] q _ (one_ars jl2 ⟨Pts.more (hpt.1.below jv2.b) jv2.b.size, hpt.2⟩) (by decide)
              rw [ZC1.out, ZC2.out] at hzo
              clear jv jx jy ju
              go_wp2_with (first | refine wpList_at_g rfl 23 _ rfl w.heap.size _ q.A rfl _ hrow2 Try.underlying23 rfl (by kernel_rfl) ?_ | refine wpList_store_new rfl 23 _ _ rfl rfl wr.heap.size q.A rfl rfl _ #[.int .i64 0, .int .i64 0] wr rfl rfl rfl (by kernel_rfl) (by kernel_rfl) ?_ | refine wpList_row_g rfl 34 _ rfl _ rfl _ _ _ _ ju1 Try.underlying34 rfl (by kernel_rfl) ?_ | refine wpList_row_g rfl 23 _ rfl _ rfl _ _ _ _ jq2 Try.underlying23 rfl (by kernel_rfl) ?_)
              refine hzo.mono ?_; rintro e w5 ⟨rfl, hb5⟩
              have jv5 := jv2.call hb5; have jx5 := jx2.below hb5 jx2.lt; have jy5 := jy2.below hb5 jy2.lt; have ju5 := ju2.below hb5 ju2.lt
              have e0 : w5.cell? ⟨ua, 0, none⟩ = some (.string az) := ju5.cell 0
              clear jv1 jv2 jx1 jx2 jy1 jy2 ju1 ju2 jq1 jq2 jl2 hzo hb5 hrow2 d1
              go_wp2_with fail
              go_roundw
              case rel => exact ⟨j + 1, by go_num, by omega, jv5, jx5, jy5, ju5⟩
              case measure => simp [intOf]; omega
            · obtain rfl : an = j := by omega
              have hlt2' : ¬ (an : Int) < (an : Int) := by omega
              go_wp2_with fail
              go_roundw
              case rel => exact ⟨k + 1, by go_num, by omega, HK1.out, jv, jx, jy⟩
              case measure => simp [intOf]; omega

        · rw [hI] at hin
          obtain ⟨k1, k2⟩ := HYs.out hF hI
          obtain ⟨z1, -⟩ := HS.out ⟨az, aA, an, ac, al⟩ k2
          have HK1 := Lib.hid (show (Value.bool true) = .bool (fiK L p (k + 1)) by rw [k1])
          clear hF hI HSt HNo HYs k1 k2
          obtain rfl := z1.symm
          go_wp2_with (first | refine wpList_at_g rfl 34 _ rfl w.heap.size _ (arA az aA an ac) rfl _ hrow Try.underlying34 rfl (by kernel_rfl) ?_ | refine wpList_store_new rfl 34 _ _ rfl rfl wr.heap.size (arA az aA an ac) rfl rfl _ #[.string ByteArray.empty, .slice none 0 0] wr rfl rfl rfl (by kernel_rfl) (by kernel_rfl) ?_ | refine wpList_row_g rfl 34 _ rfl _ rfl _ _ _ _ ub5 Try.underlying34 rfl (by kernel_rfl) ?_ | refine wpList_row_g rfl 23 _ rfl _ rfl _ _ _ _ y5 Try.underlying23 rfl (by kernel_rfl) ?_)
          refine hin.mono ?_; rintro e w6 ⟨rfl, hb6⟩
          have i6 := i5.call hb6; have x6 := x5.below hb6 x5.lt; have y6 := y5.below hb6 y5.lt; have ub6 := ub5.below hb6 ub5.lt
          obtain ⟨ua, hua⟩ : ∃ u, u = wr.heap.size := ⟨_, rfl⟩
          rw [← hua] at ub6 ⊢
          clear i5 x5 y5 ub5 hb6 hin hrow hua
          have d2 : w6.cell? ⟨ua, 1, none⟩ = some (.slice aA an ac) := ub6.cell 1
          have d0 : w6.cell? ⟨ua, 0, none⟩ = some (.string az) := ub6.cell 0
          go_wp2_with fail
          go_loopw [58] (fun i wr => ∃ j : Nat, i = .int .i64 j ∧ j ≤ an ∧ BI w wr ∧ Blk wr (w.heap.size + 1) 34 (arA z A n c) ∧ Blk wr w.heap.size 23 p.A ∧ Blk wr ua 34 (arA az aA an ac)) (fun i _ => an - (intOf i).toNat)
          case atStart => exact ⟨0, rfl, Nat.zero_le _, i6, x6, y6, ub6⟩
          case round =>
            clear i6 x6 y6 ub6
            obtain ⟨j, rfl, hj, jv, jx, jy, ju⟩ := hrel
            by_cases hlt2 : j < an
            · have hlt2' : (j : Int) < (an : Int) := by omega
              obtain ⟨cd, rfl, hrow2⟩ := (hpt.1.below jv.b).row (k := j) hlt2 (by rw [hpt.1.1]; exact hlt2)
              rw [pt_eq] at hrow2
              obtain ⟨zc1, zc2⟩ := HZC.out j hlt2
              obtain ⟨q, hq⟩ : ∃ q, pt_ al j = q := ⟨_, rfl⟩
              rw [hq] at hrow2 zc1 zc2
              have ZC1 := Lib.hid zc1; have ZC2 := Lib.hid zc2
              clear zc1 zc2 hq
              have jv1 := jv.alloc (.cells q.A 23); have jx1 := jx.alloc (.cells q.A 23); have jy1 := jy.alloc (.cells q.A 23); have ju1 := ju.alloc (.cells q.A 23)
              have jq1 := Blk.new wr 23 q.A
              have d1 : wr.cell? ⟨ua, 1, none⟩ = some (.slice (some cd) an ac) := ju.cell 1
              have jv2 := jv1.alloc (.cells (arA az (some cd) an ac) 34); have jx2 := jx1.alloc (.cells (arA az (some cd) an ac) 34); have jy2 := jy1.alloc (.cells (arA az (some cd) an ac) 34); have ju2 := ju1.alloc (.cells (arA az (some cd) an ac) 34); have jq2 := jq1.alloc (.cells (arA az (some cd) an ac) 34)
              have jl2 := blk_at (wr.alloc (.cells q.A 23)) 34 (arA az (some cd) an ac) (sz1 _ _ rfl)
              have hzo := zone_any (some ⟨wr.heap.size + 1, 0, none⟩) 1 1 [⟨az, some cd, an, ac, al⟩] q _ (one_ars jl2 ⟨Pts.more (hpt.1.below jv2.b) jv2.b.size, hpt.2⟩) (by decide)
              rw [ZC1.out, ZC2.out] at hzo
              clear jv jx jy ju
              go_wp2_with (first | refine wpList_at_g rfl 23 _ rfl w.heap.size _ q.A rfl _ hrow2 Try.underlying23 rfl (by kernel_rfl) ?_ | refine wpList_store_new rfl 23 _ _ rfl rfl wr.heap.size q.A rfl rfl _ #[.int .i64 0, .int .i64 0] wr rfl rfl rfl (by kernel_rfl) (by kernel_rfl) ?_ | refine wpList_row_g rfl 34 _ rfl _ rfl _ _ _ _ ju1 Try.underlying34 rfl (by kernel_rfl) ?_ | refine wpList_row_g rfl 23 _ rfl _ rfl _ _ _ _ jq2 Try.underlying23 rfl (by kernel_rfl) ?_)
              refine hzo.mono ?_; rintro e w5 ⟨rfl, hb5⟩
              have jv5 := jv2.call hb5; have jx5 := jx2.below hb5 jx2.lt; have jy5 := jy2.below hb5 jy2.lt; have ju5 := ju2.below hb5 ju2.lt
              have e0 : w5.cell? ⟨ua, 0, none⟩ = some (.string az) := ju5.cell 0
              clear jv1 jv2 jx1 jx2 jy1 jy2 ju1 ju2 jq1 jq2 jl2 hzo hb5 hrow2 d1
              go_wp2_with fail
              go_roundw
              case rel => exact ⟨j + 1, by go_num, by omega, jv5, jx5, jy5, ju5⟩
              case measure => simp [intOf]; omega
            · obtain rfl : an = j := by omega
              have hlt2' : ¬ (an : Int) < (an : Int) := by omega
              go_wp2_with fail
              go_roundw
              case rel => exact ⟨k + 1, by go_num, by omega, HK1.out, jv, jx, jy⟩
              case measure => simp [intOf]; omega

      · have HK1 := Lib.hid (show (Value.bool true) = .bool (fiK L p (k + 1)) by rw [HSt.out hF])
        clear hF HSt HNo HYs hin
        have d2 : (wr.alloc (.cells (arA az aA an ac) 34)).cell? ⟨wr.heap.size, 1, none⟩ = some (.slice aA an ac) := ub5.cell 1
        go_upto_region 16 with (first | refine wpList_at_g rfl 34 _ rfl w.heap.size _ (arA az aA an ac) rfl _ hrow Try.underlying34 rfl (by kernel_rfl) ?_ | refine wpList_store_new rfl 34 _ _ rfl rfl wr.heap.size (arA az aA an ac) rfl rfl _ #[.string ByteArray.empty, .slice none 0 0] wr rfl rfl rfl (by kernel_rfl) (by kernel_rfl) ?_)
        obtain ⟨w6, hw6⟩ : ∃ W : World, W = wr.alloc (.cells (arA az aA an ac) 34) := ⟨_, rfl⟩
        obtain ⟨ua, hua⟩ : ∃ u, u = wr.heap.size := ⟨_, rfl⟩
        rw [← hw6] at i5 x5 y5 ub5 d2
        rw [← hua] at ub5 d2
        rw [← hw6, ← hua]
        clear hrow hw6 hua
        go_wp2_with fail
        go_loopw [58] (fun i wr => ∃ j : Nat, i = .int .i64 j ∧ j ≤ an ∧ BI w wr ∧ Blk wr (w.heap.size + 1) 34 (arA z A n c) ∧ Blk wr w.heap.size 23 p.A ∧ Blk wr ua 34 (arA az aA an ac)) (fun i _ => an - (intOf i).toNat)
        case atStart => exact ⟨0, rfl, Nat.zero_le _, i5, x5, y5, ub5⟩
        case round =>
          clear i5 x5 y5 ub5
          obtain ⟨j, rfl, hj, jv, jx, jy, ju⟩ := hrel
          by_cases hlt2 : j < an
          · have hlt2' : (j : Int) < (an : Int) := by omega
            obtain ⟨cd, rfl, hrow2⟩ := (hpt.1.below jv.b).row (k := j) hlt2 (by rw [hpt.1.1]; exact hlt2)
            rw [pt_eq] at hrow2
            obtain ⟨zc1, zc2⟩ := HZC.out j hlt2
            obtain ⟨q, hq⟩ : ∃ q, pt_ al j = q := ⟨_, rfl⟩
            rw [hq] at hrow2 zc1 zc2
            have ZC1 := Lib.hid zc1; have ZC2 := Lib.hid zc2
            clear zc1 zc2 hq
            have jv1 := jv.alloc (.cells q.A 23); have jx1 := jx.alloc (.cells q.A 23); have jy1 := jy.alloc (.cells q.A 23); have ju1 := ju.alloc (.cells q.A 23)
            have jq1 := Blk.new wr 23 q.A
            have d1 : wr.cell? ⟨ua, 1, none⟩ = some (.slice (some cd) an ac) := ju.cell 1
            have jv2 := jv1.alloc (.cells (arA az (some cd) an ac) 34); have jx2 := jx1.alloc (.cells (arA az (some cd) an ac) 34); have jy2 := jy1.alloc (.cells (arA az (some cd) an ac) 34); have ju2 := ju1.alloc (.cells (arA az (some cd) an ac) 34); have jq2 := jq1.alloc (.cells (arA az (some cd) an ac) 34)
            have jl2 := blk_at (wr.alloc (.cells q.A 23)) 34 (arA az (some cd) an ac) (sz1 _ _ rfl)
            have hzo := zone_any (some ⟨wr.heap.size + 1, 0, none⟩) 1 1 [⟨az, some cd, an, ac, al⟩] q _ (one_ars jl2 ⟨Pts.more (hpt.1.below jv2.b) jv2.b.size, hpt.2⟩) (by decide)
            rw [ZC1.out, ZC2.out] at hzo
            clear jv jx jy ju
            go_wp2_with (first | refine wpList_at_g rfl 23 _ rfl w.heap.size _ q.A rfl _ hrow2 Try.underlying23 rfl (by kernel_rfl) ?_ | refine wpList_store_new rfl 23 _ _ rfl rfl wr.heap.size q.A rfl rfl _ #[.int .i64 0, .int .i64 0] wr rfl rfl rfl (by kernel_rfl) (by kernel_rfl) ?_ | refine wpList_row_g rfl 34 _ rfl _ rfl _ _ _ _ ju1 Try.underlying34 rfl (by kernel_rfl) ?_ | refine wpList_row_g rfl 23 _ rfl _ rfl _ _ _ _ jq2 Try.underlying23 rfl (by kernel_rfl) ?_)
            refine hzo.mono ?_; rintro e w5 ⟨rfl, hb5⟩
            have jv5 := jv2.call hb5; have jx5 := jx2.below hb5 jx2.lt; have jy5 := jy2.below hb5 jy2.lt; have ju5 := ju2.below hb5 ju2.lt
            have e0 : w5.cell? ⟨ua, 0, none⟩ = some (.string az) := ju5.cell 0
            clear jv1 jv2 jx1 jx2 jy1 jy2 ju1 ju2 jq1 jq2 jl2 hzo hb5 hrow2 d1
            go_wp2_with fail
            go_roundw
            case rel => exact ⟨j + 1, by go_num, by omega, jv5, jx5, jy5, ju5⟩
            case measure => simp [intOf]; omega
          · obtain rfl : an = j := by omega
            have hlt2' : ¬ (an : Int) < (an : Int) := by omega
            go_wp2_with fail
            go_roundw
            case rel => exact ⟨k + 1, by go_num, by omega, HK1.out, jv, jx, jy⟩
            case measure => simp [intOf]; omega

    · obtain rfl : nL = k := by omega
      have hlt' : ¬ (nL : Int) < (nL : Int) := by omega
      have hck := acheck_any z A n c w.heap.size l wr hz (hR.below hb.b) hb.b.size hm
      have HE2 := HE.out
      have HFA2 := HFA.out
      generalize hFg : fiK L p nL = F at HE2 HFA2 ⊢
      clear hFg HE HFA
      cases hA : arOk z l
      · have hv : (arE z l != 0) = true := by rw [arE_no hA]; rfl
        clear hA HFA2
        rcases HE2 with ⟨rfl, rfl⟩ | ⟨rfl, rfl⟩
        all_goals
          go_wp2_with (first | refine wpList_row_g rfl 34 _ rfl _ rfl _ _ _ _ hx Try.underlying34 rfl (by kernel_rfl) ?_)
          refine hck.mono ?_; rintro e w7 ⟨rfl, hb7⟩
          have i7 := hb.call hb7
          go_wp2_with fail
          go_ret
          exact ⟨rfl, i7⟩
      have hv : (arE z l != 0) = false := by rw [arE_yes hA]; rfl
      have hzm := fun (W : World) (A9 : Option Addr) (c9 : Nat) (h : Ars W W.heap.size A9 (nL + 1) (L ++ [⟨z, A, n, c, l⟩])) => zone_any A9 (nL + 1) c9 (L ++ [⟨z, A, n, c, l⟩]) p W h (by unfold maxLen; omega)
      have hgood : (p.ok && alB (L ++ [⟨z, A, n, c, l⟩])) = true := by rw [HPK.out, al_app, HAL.out]; show (true && (true && arOk z l)) = true; rw [hA]; rfl
      have hfa := fi_app L ⟨z, A, n, c, l⟩ p
      have hrt : rtB z l p = true := by unfold rtB; rw [HPK.out, hA]; rfl
      rcases HE2 with ⟨rfl, rfl⟩ | ⟨rfl, rfl⟩
      · obtain ⟨a0, ha0⟩ := Option.isSome_iff_exists.1 HFA2.symm
        rw [ha0] at hfa
        obtain ⟨e1, e2⟩ := zo_some hgood hfa
        rw [e1, e2, ← (HS.out a0 ha0).1] at hzm
        clear hA HFA2 hgood hfa hrt ha0 e1 e2
        go_wp2_with (first | refine wpList_row_g rfl 34 _ rfl _ rfl _ _ _ _ hx Try.underlying34 rfl (by kernel_rfl) ?_)
        refine hck.mono ?_; rintro e w7 ⟨rfl, hb7⟩
        have i7 := hb.call hb7; have x7 := hx.below hb7 hx.lt; have y7 := hy.below hb7 hy.lt
        clear hb hx hy hb7 hck
        go_upto_region 28 with fail
        obtain ⟨W0, rfl⟩ : ∃ W0 : World, W0 = w7 := ⟨_, rfl⟩
        have x0 : Blk W0.drew (w.heap.size + 1) 34 (arA z A n c) := x7
        have y0 : Blk W0.drew w.heap.size 23 p.A := y7
        have iv0 : BI w W0.drew := i7.drew
        clear x7 y7 i7
        refine wp_region_held_drew (S := fun w' => Blk w' (w.heap.size + 1) 34 (arA z A n c) ∧ ldT 34 (.pointer (some ⟨w.heap.size + 1, 0, none⟩)) w' = some (arA z A n c) ∧ Blk w' w.heap.size 23 p.A ∧ ldT 23 (.pointer (some ⟨w.heap.size, 0, none⟩)) w' = some p.A) (by kernel_rfl) (s1_of x0 y0) (fun hHeld => ?_)
        refine wpAnyH_take (i := 1) (oi := { dst := some 88, op := Op.move (Operand.tmp 0), type := 35, pos := "top22.go:84", after := #[], guard := none }) (v := ?_) rfl (by kernel_rfl) (by kernel_rfl) (by kernel_rfl) (fun _ _ _ h => h) (Or.inl ⟨by rfl, ?_⟩) hHeld ?_
        rotate_left
        · intro w hSw
          try dsimp only at hSw
          go_simp
          try with_reducible rfl
        try simp only [Act.put, List.setIfInBounds_toArray, List.set_cons_zero, List.set_cons_succ]
        refine wpAnyH_take (i := 3) (oi := { dst := some 90, op := Op.load 34 (Operand.tmp 5), type := 34, pos := "top22.go:84", after := #[], guard := none }) (v := ?_) rfl (by kernel_rfl) (by kernel_rfl) (by kernel_rfl) (fun _ _ _ h => h) (Or.inl ⟨by rfl, ?_⟩) hHeld ?_
        rotate_left
        · intro w hSw
          try dsimp only at hSw
          go_simp
          try with_reducible rfl
        try simp only [Act.put, List.setIfInBounds_toArray, List.set_cons_zero, List.set_cons_succ]
        refine wpAnyH_take (i := 6) (oi := { dst := some 93, op := Op.load 23 (Operand.tmp 4), type := 23, pos := "top22.go:84", after := #[], guard := none }) (v := ?_) rfl (by kernel_rfl) (by kernel_rfl) (by kernel_rfl) (fun _ _ _ h => h) (Or.inl ⟨by rfl, ?_⟩) hHeld ?_
        rotate_left
        · intro w hSw
          try dsimp only at hSw
          go_simp
          try with_reducible rfl
        try simp only [Act.put, List.setIfInBounds_toArray, List.set_cons_zero, List.set_cons_succ]
        refine wpAnyH_ready (rs := [0, 4]) (by kernel_rfl) (by simp) ?_
        refine AllReadyH.cons (o := { dst := some 87, op := Op.buildSlice 35 0 #[], type := 35, pos := "top22.go:84", after := #[], guard := none }) rfl (fun K hK => ?_) (AllReadyH.cons (o := { dst := some 91, op := Op.buildSlice 35 1 #[(0, Operand.tmp 90)], type := 35, pos := "top22.go:84", after := #[{ on := 3, ground := Ground.data }], guard := none }) rfl (fun K hK => ?_) (AllReadyH.nil))
        · skip
          go_simp
          have own_1 := own_xA (base := W0.drew.heap.size) (W0.drew) (Nat.le_refl W0.drew.heap.size)
          have iv_1 := iv0.alloc (.cells (#[] : Array Value) 34)
          have x_1 := x0.alloc (.cells (#[] : Array Value) 34)
          have y_1 := y0.alloc (.cells (#[] : Array Value) 34)
          have sz_1 : W0.drew.heap.size ≤ ((W0.drew).alloc (.cells (#[] : Array Value) 34)).heap.size := by rw [sz1 _ _ rfl]; exact Nat.le_succ_of_le (Nat.le_refl W0.drew.heap.size)
          refine hK.out _ _ (s1_of x_1 y_1) (fun hHeld2 => ?_)
          clear hK K hHeld; have hHeld := hHeld2; clear hHeld2
          try simp only [Act.put, List.setIfInBounds_toArray, List.set_cons_zero, List.set_cons_succ]
          refine wpAnyH_ready (rs := [2, 4]) (by kernel_rfl) (by simp) ?_
          refine AllReadyH.cons (o := { dst := some 89, op := Op.call { callee := Callee.builtin Builtin.append, args := #[Operand.tmp 87, Operand.tmp 88], argTypes := #[35, 35] }, type := 35, pos := "top22.go:84", after := #[{ on := 0, ground := Ground.data }, { on := 1, ground := Ground.data }], guard := none }) rfl (fun K hK => ?_) (AllReadyH.cons (o := { dst := some 91, op := Op.buildSlice 35 1 #[(0, Operand.tmp 90)], type := 35, pos := "top22.go:84", after := #[{ on := 3, ground := Ground.data }], guard := none }) rfl (fun K hK => ?_) (AllReadyH.nil))
          · skip
            refine wp_append_any _ (.tmp 87) (.tmp 88) 35 rfl W0.drew.heap.size 34 i0i _ 2 40 Try.underlying35 HI.out hz0 hz1 hz2 rfl (by decide) _ 0 _ rfl own_1 _ _ nL cL (flatA L) rfl (hL.below iv_1.b).r (flatA_one L) (by unfold maxLen; omega) (by omega) sz_1 ?_
            intro v_2 W_2 own_2 hg_2 hat_2
            have iv_2 : BI w W_2 := Below.grown iv_1.b hg_2 iv_1.b.size (fun g hg => Nat.le_trans iv0.b.size (own_lt9 own_1 g hg).1)
            have x_2 := x_1.grown hg_2 (fun e => by have q1 := (own_lt9 own_1 _ e.symm).1; have q2 := x0.lt; omega)
            have y_2 := y_1.grown hg_2 (fun e => by have q1 := (own_lt9 own_1 _ e.symm).1; have q2 := y0.lt; omega)
            have sz_2 : W0.drew.heap.size ≤ W_2.heap.size := Nat.le_trans sz_1 hg_2.size
            refine hK.out _ _ (s1_of x_2 y_2) (fun hHeld2 => ?_)
            clear hK K hHeld; have hHeld := hHeld2; clear hHeld2
            try simp only [Act.put, List.setIfInBounds_toArray, List.set_cons_zero, List.set_cons_succ]
            refine wpAnyH_ready (rs := [4]) (by kernel_rfl) (by simp) ?_
            refine AllReadyH.cons (o := { dst := some 91, op := Op.buildSlice 35 1 #[(0, Operand.tmp 90)], type := 35, pos := "top22.go:84", after := #[{ on := 3, ground := Ground.data }], guard := none }) rfl (fun K hK => ?_) (AllReadyH.nil)
            go_simp
            have q_3 := Blk.new (W_2) 34 (arA z A n c)
            have own_3 := own_2.alloc (.cells (arA z A n c) 34)
            have iv_3 := iv_2.alloc (.cells (arA z A n c) 34)
            have x_3 := x_2.alloc (.cells (arA z A n c) 34)
            have y_3 := y_2.alloc (.cells (arA z A n c) 34)
            have sz_3 : W0.drew.heap.size ≤ ((W_2).alloc (.cells (arA z A n c) 34)).heap.size := by rw [sz1 _ _ rfl]; exact Nat.le_succ_of_le sz_2
            refine hK.out _ _ (s1_of x_3 y_3) (fun hHeld2 => ?_)
            clear hK K hHeld; have hHeld := hHeld2; clear hHeld2
            try simp only [Act.put, List.setIfInBounds_toArray, List.set_cons_zero, List.set_cons_succ]
            refine wpAnyH_ready (rs := [5]) (by kernel_rfl) (by simp) ?_
            refine AllReadyH.cons (o := { dst := some 92, op := Op.call { callee := Callee.builtin Builtin.append, args := #[Operand.tmp 89, Operand.tmp 91], argTypes := #[35, 35] }, type := 35, pos := "top22.go:84", after := #[{ on := 2, ground := Ground.data }, { on := 4, ground := Ground.data }, { on := 2, ground := Ground.chain }], guard := none }) rfl (fun K hK => ?_) (AllReadyH.nil)
            refine wp_append_any _ (.tmp 89) (.tmp 91) 35 rfl W0.drew.heap.size 34 i0i _ 2 40 Try.underlying35 HI.out hz0 hz1 hz2 rfl (by decide) _ (0 + nL) _ rfl own_3 _ _ 1 1 (flatA [⟨z, A, n, c, l⟩]) rfl (one_reads q_3) (flatA_one _) (by unfold maxLen; omega) (by omega) sz_3 ?_
            intro v_4 W_4 own_4 hg_4 hat_4
            have iv_4 : BI w W_4 := Below.grown iv_3.b hg_4 iv_3.b.size (fun g hg => Nat.le_trans iv0.b.size (own_lt9 own_3 g hg).1)
            have x_4 := x_3.grown hg_4 (fun e => by have q1 := (own_lt9 own_3 _ e.symm).1; have q2 := x0.lt; omega)
            have y_4 := y_3.grown hg_4 (fun e => by have q1 := (own_lt9 own_3 _ e.symm).1; have q2 := y0.lt; omega)
            have sz_4 : W0.drew.heap.size ≤ W_4.heap.size := Nat.le_trans sz_3 hg_4.size
            rw [List.nil_append, ← flatA_app, Nat.zero_add] at own_4
            obtain ⟨g9, c9, e9, hc9⟩ := own_formg own_4 (by omega)
            subst e9
            refine hK.out _ _ (s1_of x_4 y_4) (fun hHeld2 => ?_)
            clear hK K hHeld; have hHeld := hHeld2; clear hHeld2
            try simp only [Act.put, List.setIfInBounds_toArray, List.set_cons_zero, List.set_cons_succ]
            refine wpAnyH_ready (rs := [7]) (by kernel_rfl) (by simp) ?_
            refine AllReadyH.cons (o := { dst := some 94, op := Op.call { callee := Callee.value (Operand.func 21), args := #[Operand.tmp 92, Operand.tmp 93], argTypes := #[35, 23] }, type := 37, pos := "top22.go:84", after := #[{ on := 5, ground := Ground.data }, { on := 6, ground := Ground.data }, { on := 5, ground := Ground.chain }], guard := none }) rfl (fun K hK => ?_) (AllReadyH.nil)
            go_simp
            refine (hzm _ _ _ (ars_app rfl own_4 hL hA0 iv_4)).mono ?_; rintro e w_5 ⟨rfl, hb_5⟩
            have iv_5 := iv_4.call hb_5; have x_5 := x_4.below hb_5 x_4.lt; have y_5 := y_4.below hb_5 y_4.lt
            try go_wp2_with fail
            refine hK.out _ _ (s1_of x_5 y_5) (fun hHeld2 => ?_)
            clear hK K hHeld; have hHeld := hHeld2; clear hHeld2
            try simp only [Act.put, List.setIfInBounds_toArray, List.set_cons_zero, List.set_cons_succ]
            refine wpAnyH_take (i := 8) (oi := { dst := some 86, op := Op.move (Operand.tmp 94), type := 37, pos := "top22.go:84", after := #[{ on := 7, ground := Ground.data }], guard := none }) (v := ?_) rfl (by kernel_rfl) (by kernel_rfl) (by kernel_rfl) (fun _ _ _ h => h) (Or.inl ⟨by rfl, ?_⟩) hHeld ?_
            rotate_left
            · intro w hSw
              try dsimp only at hSw
              go_simp
              try with_reducible rfl
            try simp only [Act.put, List.setIfInBounds_toArray, List.set_cons_zero, List.set_cons_succ]
            refine wpAnyH_take (i := 9) (oi := { dst := some 95, op := Op.extract (Operand.tmp 86) 0, type := 9, pos := "top22.go:84", after := #[{ on := 8, ground := Ground.data }], guard := none }) (v := ?_) rfl (by kernel_rfl) (by kernel_rfl) (by kernel_rfl) (fun _ _ _ h => h) (Or.inl ⟨by rfl, ?_⟩) hHeld ?_
            rotate_left
            · intro w hSw
              try dsimp only at hSw
              go_simp
              try with_reducible rfl
            try simp only [Act.put, List.setIfInBounds_toArray, List.set_cons_zero, List.set_cons_succ]
            refine wpAnyH_take (i := 10) (oi := { dst := some 96, op := Op.extract (Operand.tmp 86) 1, type := 25, pos := "top22.go:84", after := #[{ on := 8, ground := Ground.data }, { on := 11, ground := Ground.gcOnly Departure.lateStores }], guard := none }) (v := ?_) rfl (by kernel_rfl) (by kernel_rfl) (by kernel_rfl) (fun _ _ _ h => h) (Or.inl ⟨by rfl, ?_⟩) hHeld ?_
            rotate_left
            · intro w hSw
              try dsimp only at hSw
              go_simp
              try with_reducible rfl
            try simp only [Act.put, List.setIfInBounds_toArray, List.set_cons_zero, List.set_cons_succ]
            refine wpAnyH_take (i := 11) (oi := { dst := some 16, op := Op.assign (Operand.tmp 95), type := 9, pos := "top22.go:84", after := #[{ on := 9, ground := Ground.data }, { on := 7, ground := Ground.chain }, { on := 0, ground := Ground.phase }, { on := 1, ground := Ground.phase }, { on := 2, ground := Ground.phase }, { on := 3, ground := Ground.phase }, { on := 4, ground := Ground.phase }, { on := 5, ground := Ground.phase }, { on := 6, ground := Ground.phase }, { on := 7, ground := Ground.phase }, { on := 8, ground := Ground.phase }, { on := 9, ground := Ground.phase }, { on := 10, ground := Ground.textOnly Departure.lateStores }], guard := none }) (v := ?_) rfl (by kernel_rfl) (by kernel_rfl) (by kernel_rfl) (fun _ _ _ h => h) (Or.inl ⟨by rfl, ?_⟩) hHeld ?_
            rotate_left
            · intro w hSw
              try dsimp only at hSw
              go_simp
              try with_reducible rfl
            try simp only [Act.put, List.setIfInBounds_toArray, List.set_cons_zero, List.set_cons_succ]
            refine wpAnyH_take (i := 12) (oi := { dst := some 17, op := Op.assign (Operand.tmp 96), type := 25, pos := "top22.go:84", after := #[{ on := 10, ground := Ground.data }, { on := 11, ground := Ground.chain }, { on := 0, ground := Ground.phase }, { on := 1, ground := Ground.phase }, { on := 2, ground := Ground.phase }, { on := 3, ground := Ground.phase }, { on := 4, ground := Ground.phase }, { on := 5, ground := Ground.phase }, { on := 6, ground := Ground.phase }, { on := 7, ground := Ground.phase }, { on := 8, ground := Ground.phase }, { on := 9, ground := Ground.phase }, { on := 10, ground := Ground.phase }, { on := 11, ground := Ground.phase }], guard := none }) (v := ?_) rfl (by kernel_rfl) (by kernel_rfl) (by kernel_rfl) (fun _ _ _ h => h) (Or.inl ⟨by rfl, ?_⟩) hHeld ?_
            rotate_left
            · intro w hSw
              try dsimp only at hSw
              go_simp
              try with_reducible rfl
            try simp only [Act.put, List.setIfInBounds_toArray, List.set_cons_zero, List.set_cons_succ]
            refine wpAnyH_done (by kernel_rfl) ?_ _
            clear hHeld
            go_wp2_with fail
            go_ret
            exact ⟨rfl, iv_5⟩
          · skip
            go_simp
            have q_6 := blk_at ((W0.drew).alloc (.cells (#[] : Array Value) 34)) 34 (arA z A n c) (sz1 W0.drew _ rfl)
            have own_6 := own_1.alloc (.cells (arA z A n c) 34)
            have iv_6 := iv_1.alloc (.cells (arA z A n c) 34)
            have x_6 := x_1.alloc (.cells (arA z A n c) 34)
            have y_6 := y_1.alloc (.cells (arA z A n c) 34)
            have sz_6 : W0.drew.heap.size ≤ (((W0.drew).alloc (.cells (#[] : Array Value) 34)).alloc (.cells (arA z A n c) 34)).heap.size := by rw [sz1 _ _ rfl]; exact Nat.le_succ_of_le sz_1
            refine hK.out _ _ (s1_of x_6 y_6) (fun hHeld2 => ?_)
            clear hK K hHeld; have hHeld := hHeld2; clear hHeld2
            try simp only [Act.put, List.setIfInBounds_toArray, List.set_cons_zero, List.set_cons_succ]
            refine wpAnyH_ready (rs := [2]) (by kernel_rfl) (by simp) ?_
            refine AllReadyH.cons (o := { dst := some 89, op := Op.call { callee := Callee.builtin Builtin.append, args := #[Operand.tmp 87, Operand.tmp 88], argTypes := #[35, 35] }, type := 35, pos := "top22.go:84", after := #[{ on := 0, ground := Ground.data }, { on := 1, ground := Ground.data }], guard := none }) rfl (fun K hK => ?_) (AllReadyH.nil)
            refine wp_append_any _ (.tmp 87) (.tmp 88) 35 rfl W0.drew.heap.size 34 i0i _ 2 40 Try.underlying35 HI.out hz0 hz1 hz2 rfl (by decide) _ 0 _ rfl own_6 _ _ nL cL (flatA L) rfl (hL.below iv_6.b).r (flatA_one L) (by unfold maxLen; omega) (by omega) sz_6 ?_
            intro v_7 W_7 own_7 hg_7 hat_7
            have iv_7 : BI w W_7 := Below.grown iv_6.b hg_7 iv_6.b.size (fun g hg => Nat.le_trans iv0.b.size (own_lt9 own_6 g hg).1)
            have x_7 := x_6.grown hg_7 (fun e => by have q1 := (own_lt9 own_6 _ e.symm).1; have q2 := x0.lt; omega)
            have y_7 := y_6.grown hg_7 (fun e => by have q1 := (own_lt9 own_6 _ e.symm).1; have q2 := y0.lt; omega)
            have q_7 := q_6.grown hg_7 (fun e => by first | (have e2 : some (W0.drew.heap.size + 1) = some W0.drew.heap.size := e; injection e2; omega) | (have e2 : some W0.drew.heap.size = some (W0.drew.heap.size + 1) := e; injection e2; omega))
            have sz_7 : W0.drew.heap.size ≤ W_7.heap.size := Nat.le_trans sz_6 hg_7.size
            refine hK.out _ _ (s1_of x_7 y_7) (fun hHeld2 => ?_)
            clear hK K hHeld; have hHeld := hHeld2; clear hHeld2
            try simp only [Act.put, List.setIfInBounds_toArray, List.set_cons_zero, List.set_cons_succ]
            refine wpAnyH_ready (rs := [5]) (by kernel_rfl) (by simp) ?_
            refine AllReadyH.cons (o := { dst := some 92, op := Op.call { callee := Callee.builtin Builtin.append, args := #[Operand.tmp 89, Operand.tmp 91], argTypes := #[35, 35] }, type := 35, pos := "top22.go:84", after := #[{ on := 2, ground := Ground.data }, { on := 4, ground := Ground.data }, { on := 2, ground := Ground.chain }], guard := none }) rfl (fun K hK => ?_) (AllReadyH.nil)
            refine wp_append_any _ (.tmp 89) (.tmp 91) 35 rfl W0.drew.heap.size 34 i0i _ 2 40 Try.underlying35 HI.out hz0 hz1 hz2 rfl (by decide) _ (0 + nL) _ rfl own_7 _ _ 1 1 (flatA [⟨z, A, n, c, l⟩]) rfl (one_reads q_7) (flatA_one _) (by unfold maxLen; omega) (by omega) sz_7 ?_
            intro v_8 W_8 own_8 hg_8 hat_8
            have iv_8 : BI w W_8 := Below.grown iv_7.b hg_8 iv_7.b.size (fun g hg => Nat.le_trans iv0.b.size (own_lt9 own_7 g hg).1)
            have x_8 := x_7.grown hg_8 (fun e => by have q1 := (own_lt9 own_7 _ e.symm).1; have q2 := x0.lt; omega)
            have y_8 := y_7.grown hg_8 (fun e => by have q1 := (own_lt9 own_7 _ e.symm).1; have q2 := y0.lt; omega)
            have sz_8 : W0.drew.heap.size ≤ W_8.heap.size := Nat.le_trans sz_7 hg_8.size
            rw [List.nil_append, ← flatA_app, Nat.zero_add] at own_8
            obtain ⟨g9, c9, e9, hc9⟩ := own_formg own_8 (by omega)
            subst e9
            refine hK.out _ _ (s1_of x_8 y_8) (fun hHeld2 => ?_)
            clear hK K hHeld; have hHeld := hHeld2; clear hHeld2
            try simp only [Act.put, List.setIfInBounds_toArray, List.set_cons_zero, List.set_cons_succ]
            refine wpAnyH_ready (rs := [7]) (by kernel_rfl) (by simp) ?_
            refine AllReadyH.cons (o := { dst := some 94, op := Op.call { callee := Callee.value (Operand.func 21), args := #[Operand.tmp 92, Operand.tmp 93], argTypes := #[35, 23] }, type := 37, pos := "top22.go:84", after := #[{ on := 5, ground := Ground.data }, { on := 6, ground := Ground.data }, { on := 5, ground := Ground.chain }], guard := none }) rfl (fun K hK => ?_) (AllReadyH.nil)
            go_simp
            refine (hzm _ _ _ (ars_app rfl own_8 hL hA0 iv_8)).mono ?_; rintro e w_9 ⟨rfl, hb_9⟩
            have iv_9 := iv_8.call hb_9; have x_9 := x_8.below hb_9 x_8.lt; have y_9 := y_8.below hb_9 y_8.lt
            try go_wp2_with fail
            refine hK.out _ _ (s1_of x_9 y_9) (fun hHeld2 => ?_)
            clear hK K hHeld; have hHeld := hHeld2; clear hHeld2
            try simp only [Act.put, List.setIfInBounds_toArray, List.set_cons_zero, List.set_cons_succ]
            refine wpAnyH_take (i := 8) (oi := { dst := some 86, op := Op.move (Operand.tmp 94), type := 37, pos := "top22.go:84", after := #[{ on := 7, ground := Ground.data }], guard := none }) (v := ?_) rfl (by kernel_rfl) (by kernel_rfl) (by kernel_rfl) (fun _ _ _ h => h) (Or.inl ⟨by rfl, ?_⟩) hHeld ?_
            rotate_left
            · intro w hSw
              try dsimp only at hSw
              go_simp
              try with_reducible rfl
            try simp only [Act.put, List.setIfInBounds_toArray, List.set_cons_zero, List.set_cons_succ]
            refine wpAnyH_take (i := 9) (oi := { dst := some 95, op := Op.extract (Operand.tmp 86) 0, type := 9, pos := "top22.go:84", after := #[{ on := 8, ground := Ground.data }], guard := none }) (v := ?_) rfl (by kernel_rfl) (by kernel_rfl) (by kernel_rfl) (fun _ _ _ h => h) (Or.inl ⟨by rfl, ?_⟩) hHeld ?_
            rotate_left
            · intro w hSw
              try dsimp only at hSw
              go_simp
              try with_reducible rfl
            try simp only [Act.put, List.setIfInBounds_toArray, List.set_cons_zero, List.set_cons_succ]
            refine wpAnyH_take (i := 10) (oi := { dst := some 96, op := Op.extract (Operand.tmp 86) 1, type := 25, pos := "top22.go:84", after := #[{ on := 8, ground := Ground.data }, { on := 11, ground := Ground.gcOnly Departure.lateStores }], guard := none }) (v := ?_) rfl (by kernel_rfl) (by kernel_rfl) (by kernel_rfl) (fun _ _ _ h => h) (Or.inl ⟨by rfl, ?_⟩) hHeld ?_
            rotate_left
            · intro w hSw
              try dsimp only at hSw
              go_simp
              try with_reducible rfl
            try simp only [Act.put, List.setIfInBounds_toArray, List.set_cons_zero, List.set_cons_succ]
            refine wpAnyH_take (i := 11) (oi := { dst := some 16, op := Op.assign (Operand.tmp 95), type := 9, pos := "top22.go:84", after := #[{ on := 9, ground := Ground.data }, { on := 7, ground := Ground.chain }, { on := 0, ground := Ground.phase }, { on := 1, ground := Ground.phase }, { on := 2, ground := Ground.phase }, { on := 3, ground := Ground.phase }, { on := 4, ground := Ground.phase }, { on := 5, ground := Ground.phase }, { on := 6, ground := Ground.phase }, { on := 7, ground := Ground.phase }, { on := 8, ground := Ground.phase }, { on := 9, ground := Ground.phase }, { on := 10, ground := Ground.textOnly Departure.lateStores }], guard := none }) (v := ?_) rfl (by kernel_rfl) (by kernel_rfl) (by kernel_rfl) (fun _ _ _ h => h) (Or.inl ⟨by rfl, ?_⟩) hHeld ?_
            rotate_left
            · intro w hSw
              try dsimp only at hSw
              go_simp
              try with_reducible rfl
            try simp only [Act.put, List.setIfInBounds_toArray, List.set_cons_zero, List.set_cons_succ]
            refine wpAnyH_take (i := 12) (oi := { dst := some 17, op := Op.assign (Operand.tmp 96), type := 25, pos := "top22.go:84", after := #[{ on := 10, ground := Ground.data }, { on := 11, ground := Ground.chain }, { on := 0, ground := Ground.phase }, { on := 1, ground := Ground.phase }, { on := 2, ground := Ground.phase }, { on := 3, ground := Ground.phase }, { on := 4, ground := Ground.phase }, { on := 5, ground := Ground.phase }, { on := 6, ground := Ground.phase }, { on := 7, ground := Ground.phase }, { on := 8, ground := Ground.phase }, { on := 9, ground := Ground.phase }, { on := 10, ground := Ground.phase }, { on := 11, ground := Ground.phase }], guard := none }) (v := ?_) rfl (by kernel_rfl) (by kernel_rfl) (by kernel_rfl) (fun _ _ _ h => h) (Or.inl ⟨by rfl, ?_⟩) hHeld ?_
            rotate_left
            · intro w hSw
              try dsimp only at hSw
              go_simp
              try with_reducible rfl
            try simp only [Act.put, List.setIfInBounds_toArray, List.set_cons_zero, List.set_cons_succ]
            refine wpAnyH_done (by kernel_rfl) ?_ _
            clear hHeld
            go_wp2_with fail
            go_ret
            exact ⟨rfl, iv_9⟩
        · skip
          go_simp
          have q_10 := Blk.new (W0.drew) 34 (arA z A n c)
          have iv_10 := iv0.alloc (.cells (arA z A n c) 34)
          have x_10 := x0.alloc (.cells (arA z A n c) 34)
          have y_10 := y0.alloc (.cells (arA z A n c) 34)
          have sz_10 : W0.drew.heap.size ≤ ((W0.drew).alloc (.cells (arA z A n c) 34)).heap.size := by rw [sz1 _ _ rfl]; exact Nat.le_succ_of_le (Nat.le_refl W0.drew.heap.size)
          refine hK.out _ _ (s1_of x_10 y_10) (fun hHeld2 => ?_)
          clear hK K hHeld; have hHeld := hHeld2; clear hHeld2
          try simp only [Act.put, List.setIfInBounds_toArray, List.set_cons_zero, List.set_cons_succ]
          refine wpAnyH_ready (rs := [0]) (by kernel_rfl) (by simp) ?_
          refine AllReadyH.cons (o := { dst := some 87, op := Op.buildSlice 35 0 #[], type := 35, pos := "top22.go:84", after := #[], guard := none }) rfl (fun K hK => ?_) (AllReadyH.nil)
          go_simp
          have own_11 := own_xA (base := W0.drew.heap.size) ((W0.drew).alloc (.cells (arA z A n c) 34)) sz_10
          rw [sz1 W0.drew _ rfl] at own_11
          have q_11 := q_10.alloc (.cells (#[] : Array Value) 34)
          have iv_11 := iv_10.alloc (.cells (#[] : Array Value) 34)
          have x_11 := x_10.alloc (.cells (#[] : Array Value) 34)
          have y_11 := y_10.alloc (.cells (#[] : Array Value) 34)
          have sz_11 : W0.drew.heap.size ≤ (((W0.drew).alloc (.cells (arA z A n c) 34)).alloc (.cells (#[] : Array Value) 34)).heap.size := by rw [sz1 _ _ rfl]; exact Nat.le_succ_of_le sz_10
          refine hK.out _ _ (s1_of x_11 y_11) (fun hHeld2 => ?_)
          clear hK K hHeld; have hHeld := hHeld2; clear hHeld2
          try simp only [Act.put, List.setIfInBounds_toArray, List.set_cons_zero, List.set_cons_succ]
          refine wpAnyH_ready (rs := [2]) (by kernel_rfl) (by simp) ?_
          refine AllReadyH.cons (o := { dst := some 89, op := Op.call { callee := Callee.builtin Builtin.append, args := #[Operand.tmp 87, Operand.tmp 88], argTypes := #[35, 35] }, type := 35, pos := "top22.go:84", after := #[{ on := 0, ground := Ground.data }, { on := 1, ground := Ground.data }], guard := none }) rfl (fun K hK => ?_) (AllReadyH.nil)
          refine wp_append_any _ (.tmp 87) (.tmp 88) 35 rfl W0.drew.heap.size 34 i0i _ 2 40 Try.underlying35 HI.out hz0 hz1 hz2 rfl (by decide) _ 0 _ rfl own_11 _ _ nL cL (flatA L) rfl (hL.below iv_11.b).r (flatA_one L) (by unfold maxLen; omega) (by omega) sz_11 ?_
          intro v_12 W_12 own_12 hg_12 hat_12
          have iv_12 : BI w W_12 := Below.grown iv_11.b hg_12 iv_11.b.size (fun g hg => Nat.le_trans iv0.b.size (own_lt9 own_11 g hg).1)
          have x_12 := x_11.grown hg_12 (fun e => by have q1 := (own_lt9 own_11 _ e.symm).1; have q2 := x0.lt; omega)
          have y_12 := y_11.grown hg_12 (fun e => by have q1 := (own_lt9 own_11 _ e.symm).1; have q2 := y0.lt; omega)
          have q_12 := q_11.grown hg_12 (fun e => by first | (have e2 : some (W0.drew.heap.size + 1) = some W0.drew.heap.size := e; injection e2; omega) | (have e2 : some W0.drew.heap.size = some (W0.drew.heap.size + 1) := e; injection e2; omega))
          have sz_12 : W0.drew.heap.size ≤ W_12.heap.size := Nat.le_trans sz_11 hg_12.size
          refine hK.out _ _ (s1_of x_12 y_12) (fun hHeld2 => ?_)
          clear hK K hHeld; have hHeld := hHeld2; clear hHeld2
          try simp only [Act.put, List.setIfInBounds_toArray, List.set_cons_zero, List.set_cons_succ]
          refine wpAnyH_ready (rs := [5]) (by kernel_rfl) (by simp) ?_
          refine AllReadyH.cons (o := { dst := some 92, op := Op.call { callee := Callee.builtin Builtin.append, args := #[Operand.tmp 89, Operand.tmp 91], argTypes := #[35, 35] }, type := 35, pos := "top22.go:84", after := #[{ on := 2, ground := Ground.data }, { on := 4, ground := Ground.data }, { on := 2, ground := Ground.chain }], guard := none }) rfl (fun K hK => ?_) (AllReadyH.nil)
          refine wp_append_any _ (.tmp 89) (.tmp 91) 35 rfl W0.drew.heap.size 34 i0i _ 2 40 Try.underlying35 HI.out hz0 hz1 hz2 rfl (by decide) _ (0 + nL) _ rfl own_12 _ _ 1 1 (flatA [⟨z, A, n, c, l⟩]) rfl (one_reads q_12) (flatA_one _) (by unfold maxLen; omega) (by omega) sz_12 ?_
          intro v_13 W_13 own_13 hg_13 hat_13
          have iv_13 : BI w W_13 := Below.grown iv_12.b hg_13 iv_12.b.size (fun g hg => Nat.le_trans iv0.b.size (own_lt9 own_12 g hg).1)
          have x_13 := x_12.grown hg_13 (fun e => by have q1 := (own_lt9 own_12 _ e.symm).1; have q2 := x0.lt; omega)
          have y_13 := y_12.grown hg_13 (fun e => by have q1 := (own_lt9 own_12 _ e.symm).1; have q2 := y0.lt; omega)
          have sz_13 : W0.drew.heap.size ≤ W_13.heap.size := Nat.le_trans sz_12 hg_13.size
          rw [List.nil_append, ← flatA_app, Nat.zero_add] at own_13
          obtain ⟨g9, c9, e9, hc9⟩ := own_formg own_13 (by omega)
          subst e9
          refine hK.out _ _ (s1_of x_13 y_13) (fun hHeld2 => ?_)
          clear hK K hHeld; have hHeld := hHeld2; clear hHeld2
          try simp only [Act.put, List.setIfInBounds_toArray, List.set_cons_zero, List.set_cons_succ]
          refine wpAnyH_ready (rs := [7]) (by kernel_rfl) (by simp) ?_
          refine AllReadyH.cons (o := { dst := some 94, op := Op.call { callee := Callee.value (Operand.func 21), args := #[Operand.tmp 92, Operand.tmp 93], argTypes := #[35, 23] }, type := 37, pos := "top22.go:84", after := #[{ on := 5, ground := Ground.data }, { on := 6, ground := Ground.data }, { on := 5, ground := Ground.chain }], guard := none }) rfl (fun K hK => ?_) (AllReadyH.nil)
          go_simp
          refine (hzm _ _ _ (ars_app rfl own_13 hL hA0 iv_13)).mono ?_; rintro e w_14 ⟨rfl, hb_14⟩
          have iv_14 := iv_13.call hb_14; have x_14 := x_13.below hb_14 x_13.lt; have y_14 := y_13.below hb_14 y_13.lt
          try go_wp2_with fail
          refine hK.out _ _ (s1_of x_14 y_14) (fun hHeld2 => ?_)
          clear hK K hHeld; have hHeld := hHeld2; clear hHeld2
          try simp only [Act.put, List.setIfInBounds_toArray, List.set_cons_zero, List.set_cons_succ]
          refine wpAnyH_take (i := 8) (oi := { dst := some 86, op := Op.move (Operand.tmp 94), type := 37, pos := "top22.go:84", after := #[{ on := 7, ground := Ground.data }], guard := none }) (v := ?_) rfl (by kernel_rfl) (by kernel_rfl) (by kernel_rfl) (fun _ _ _ h => h) (Or.inl ⟨by rfl, ?_⟩) hHeld ?_
          rotate_left
          · intro w hSw
            try dsimp only at hSw
            go_simp
            try with_reducible rfl
          try simp only [Act.put, List.setIfInBounds_toArray, List.set_cons_zero, List.set_cons_succ]
          refine wpAnyH_take (i := 9) (oi := { dst := some 95, op := Op.extract (Operand.tmp 86) 0, type := 9, pos := "top22.go:84", after := #[{ on := 8, ground := Ground.data }], guard := none }) (v := ?_) rfl (by kernel_rfl) (by kernel_rfl) (by kernel_rfl) (fun _ _ _ h => h) (Or.inl ⟨by rfl, ?_⟩) hHeld ?_
          rotate_left
          · intro w hSw
            try dsimp only at hSw
            go_simp
            try with_reducible rfl
          try simp only [Act.put, List.setIfInBounds_toArray, List.set_cons_zero, List.set_cons_succ]
          refine wpAnyH_take (i := 10) (oi := { dst := some 96, op := Op.extract (Operand.tmp 86) 1, type := 25, pos := "top22.go:84", after := #[{ on := 8, ground := Ground.data }, { on := 11, ground := Ground.gcOnly Departure.lateStores }], guard := none }) (v := ?_) rfl (by kernel_rfl) (by kernel_rfl) (by kernel_rfl) (fun _ _ _ h => h) (Or.inl ⟨by rfl, ?_⟩) hHeld ?_
          rotate_left
          · intro w hSw
            try dsimp only at hSw
            go_simp
            try with_reducible rfl
          try simp only [Act.put, List.setIfInBounds_toArray, List.set_cons_zero, List.set_cons_succ]
          refine wpAnyH_take (i := 11) (oi := { dst := some 16, op := Op.assign (Operand.tmp 95), type := 9, pos := "top22.go:84", after := #[{ on := 9, ground := Ground.data }, { on := 7, ground := Ground.chain }, { on := 0, ground := Ground.phase }, { on := 1, ground := Ground.phase }, { on := 2, ground := Ground.phase }, { on := 3, ground := Ground.phase }, { on := 4, ground := Ground.phase }, { on := 5, ground := Ground.phase }, { on := 6, ground := Ground.phase }, { on := 7, ground := Ground.phase }, { on := 8, ground := Ground.phase }, { on := 9, ground := Ground.phase }, { on := 10, ground := Ground.textOnly Departure.lateStores }], guard := none }) (v := ?_) rfl (by kernel_rfl) (by kernel_rfl) (by kernel_rfl) (fun _ _ _ h => h) (Or.inl ⟨by rfl, ?_⟩) hHeld ?_
          rotate_left
          · intro w hSw
            try dsimp only at hSw
            go_simp
            try with_reducible rfl
          try simp only [Act.put, List.setIfInBounds_toArray, List.set_cons_zero, List.set_cons_succ]
          refine wpAnyH_take (i := 12) (oi := { dst := some 17, op := Op.assign (Operand.tmp 96), type := 25, pos := "top22.go:84", after := #[{ on := 10, ground := Ground.data }, { on := 11, ground := Ground.chain }, { on := 0, ground := Ground.phase }, { on := 1, ground := Ground.phase }, { on := 2, ground := Ground.phase }, { on := 3, ground := Ground.phase }, { on := 4, ground := Ground.phase }, { on := 5, ground := Ground.phase }, { on := 6, ground := Ground.phase }, { on := 7, ground := Ground.phase }, { on := 8, ground := Ground.phase }, { on := 9, ground := Ground.phase }, { on := 10, ground := Ground.phase }, { on := 11, ground := Ground.phase }], guard := none }) (v := ?_) rfl (by kernel_rfl) (by kernel_rfl) (by kernel_rfl) (fun _ _ _ h => h) (Or.inl ⟨by rfl, ?_⟩) hHeld ?_
          rotate_left
          · intro w hSw
            try dsimp only at hSw
            go_simp
            try with_reducible rfl
          try simp only [Act.put, List.setIfInBounds_toArray, List.set_cons_zero, List.set_cons_succ]
          refine wpAnyH_done (by kernel_rfl) ?_ _
          clear hHeld
          go_wp2_with fail
          go_ret
          exact ⟨rfl, iv_14⟩
      have hfn : fiA L p = none := by simpa using HFA2.symm
      rw [hfn] at hfa
      have hin := fun W (i : BI w W) => Inside_any z A n c l p W hz (Pts.more (hR.below i.b) i.b.size) hm
      rw [hrt, Bool.true_and] at hin
      clear hA HFA2 hrt hfn HS HN
      cases hI : inB l p
      · rw [hI] at hin
        rw [show (match (none : Option Ae) with | some b => some b | none => if inB l p = true then some (⟨z, A, n, c, l⟩ : Ae) else none) = none by rw [hI]; rfl] at hfa
        obtain ⟨e1, e2⟩ := zo_none hgood hfa
        rw [e1, e2] at hzm
        clear hgood hfa hI e1 e2
        go_wp2_with (first | refine wpList_row_g rfl 34 _ rfl _ rfl _ _ _ _ hx Try.underlying34 rfl (by kernel_rfl) ?_)
        refine hck.mono ?_; rintro e w7 ⟨rfl, hb7⟩
        have i7 := hb.call hb7; have x7 := hx.below hb7 hx.lt; have y7 := hy.below hb7 hy.lt
        clear hb hx hy hb7 hck
        go_upto_region 28 with fail
        obtain ⟨W0, rfl⟩ : ∃ W0 : World, W0 = w7 := ⟨_, rfl⟩
        have x0 : Blk W0.drew (w.heap.size + 1) 34 (arA z A n c) := x7
        have y0 : Blk W0.drew w.heap.size 23 p.A := y7
        have iv0 : BI w W0.drew := i7.drew
        clear x7 y7 i7
        refine wp_region_held_drew (S := fun w' => Blk w' (w.heap.size + 1) 34 (arA z A n c) ∧ ldT 34 (.pointer (some ⟨w.heap.size + 1, 0, none⟩)) w' = some (arA z A n c) ∧ Blk w' w.heap.size 23 p.A ∧ ldT 23 (.pointer (some ⟨w.heap.size, 0, none⟩)) w' = some p.A) (by kernel_rfl) (s1_of x0 y0) (fun hHeld => ?_)
        refine wpAnyH_take (i := 1) (oi := { dst := some 88, op := Op.move (Operand.tmp 0), type := 35, pos := "top22.go:84", after := #[], guard := none }) (v := ?_) rfl (by kernel_rfl) (by kernel_rfl) (by kernel_rfl) (fun _ _ _ h => h) (Or.inl ⟨by rfl, ?_⟩) hHeld ?_
        rotate_left
        · intro w hSw
          try dsimp only at hSw
          go_simp
          try with_reducible rfl
        try simp only [Act.put, List.setIfInBounds_toArray, List.set_cons_zero, List.set_cons_succ]
        refine wpAnyH_take (i := 3) (oi := { dst := some 90, op := Op.load 34 (Operand.tmp 5), type := 34, pos := "top22.go:84", after := #[], guard := none }) (v := ?_) rfl (by kernel_rfl) (by kernel_rfl) (by kernel_rfl) (fun _ _ _ h => h) (Or.inl ⟨by rfl, ?_⟩) hHeld ?_
        rotate_left
        · intro w hSw
          try dsimp only at hSw
          go_simp
          try with_reducible rfl
        try simp only [Act.put, List.setIfInBounds_toArray, List.set_cons_zero, List.set_cons_succ]
        refine wpAnyH_take (i := 6) (oi := { dst := some 93, op := Op.load 23 (Operand.tmp 4), type := 23, pos := "top22.go:84", after := #[], guard := none }) (v := ?_) rfl (by kernel_rfl) (by kernel_rfl) (by kernel_rfl) (fun _ _ _ h => h) (Or.inl ⟨by rfl, ?_⟩) hHeld ?_
        rotate_left
        · intro w hSw
          try dsimp only at hSw
          go_simp
          try with_reducible rfl
        try simp only [Act.put, List.setIfInBounds_toArray, List.set_cons_zero, List.set_cons_succ]
        refine wpAnyH_ready (rs := [0, 4]) (by kernel_rfl) (by simp) ?_
        refine AllReadyH.cons (o := { dst := some 87, op := Op.buildSlice 35 0 #[], type := 35, pos := "top22.go:84", after := #[], guard := none }) rfl (fun K hK => ?_) (AllReadyH.cons (o := { dst := some 91, op := Op.buildSlice 35 1 #[(0, Operand.tmp 90)], type := 35, pos := "top22.go:84", after := #[{ on := 3, ground := Ground.data }], guard := none }) rfl (fun K hK => ?_) (AllReadyH.nil))
        · skip
          go_simp
          have own_1 := own_xA (base := W0.drew.heap.size) (W0.drew) (Nat.le_refl W0.drew.heap.size)
          have iv_1 := iv0.alloc (.cells (#[] : Array Value) 34)
          have x_1 := x0.alloc (.cells (#[] : Array Value) 34)
          have y_1 := y0.alloc (.cells (#[] : Array Value) 34)
          have sz_1 : W0.drew.heap.size ≤ ((W0.drew).alloc (.cells (#[] : Array Value) 34)).heap.size := by rw [sz1 _ _ rfl]; exact Nat.le_succ_of_le (Nat.le_refl W0.drew.heap.size)
          refine hK.out _ _ (s1_of x_1 y_1) (fun hHeld2 => ?_)
          clear hK K hHeld; have hHeld := hHeld2; clear hHeld2
          try simp only [Act.put, List.setIfInBounds_toArray, List.set_cons_zero, List.set_cons_succ]
          refine wpAnyH_ready (rs := [2, 4]) (by kernel_rfl) (by simp) ?_
          refine AllReadyH.cons (o := { dst := some 89, op := Op.call { callee := Callee.builtin Builtin.append, args := #[Operand.tmp 87, Operand.tmp 88], argTypes := #[35, 35] }, type := 35, pos := "top22.go:84", after := #[{ on := 0, ground := Ground.data }, { on := 1, ground := Ground.data }], guard := none }) rfl (fun K hK => ?_) (AllReadyH.cons (o := { dst := some 91, op := Op.buildSlice 35 1 #[(0, Operand.tmp 90)], type := 35, pos := "top22.go:84", after := #[{ on := 3, ground := Ground.data }], guard := none }) rfl (fun K hK => ?_) (AllReadyH.nil))
          · skip
            refine wp_append_any _ (.tmp 87) (.tmp 88) 35 rfl W0.drew.heap.size 34 i0i _ 2 40 Try.underlying35 HI.out hz0 hz1 hz2 rfl (by decide) _ 0 _ rfl own_1 _ _ nL cL (flatA L) rfl (hL.below iv_1.b).r (flatA_one L) (by unfold maxLen; omega) (by omega) sz_1 ?_
            intro v_2 W_2 own_2 hg_2 hat_2
            have iv_2 : BI w W_2 := Below.grown iv_1.b hg_2 iv_1.b.size (fun g hg => Nat.le_trans iv0.b.size (own_lt9 own_1 g hg).1)
            have x_2 := x_1.grown hg_2 (fun e => by have q1 := (own_lt9 own_1 _ e.symm).1; have q2 := x0.lt; omega)
            have y_2 := y_1.grown hg_2 (fun e => by have q1 := (own_lt9 own_1 _ e.symm).1; have q2 := y0.lt; omega)
            have sz_2 : W0.drew.heap.size ≤ W_2.heap.size := Nat.le_trans sz_1 hg_2.size
            refine hK.out _ _ (s1_of x_2 y_2) (fun hHeld2 => ?_)
            clear hK K hHeld; have hHeld := hHeld2; clear hHeld2
            try simp only [Act.put, List.setIfInBounds_toArray, List.set_cons_zero, List.set_cons_succ]
            refine wpAnyH_ready (rs := [4]) (by kernel_rfl) (by simp) ?_
            refine AllReadyH.cons (o := { dst := some 91, op := Op.buildSlice 35 1 #[(0, Operand.tmp 90)], type := 35, pos := "top22.go:84", after := #[{ on := 3, ground := Ground.data }], guard := none }) rfl (fun K hK => ?_) (AllReadyH.nil)
            go_simp
            have q_3 := Blk.new (W_2) 34 (arA z A n c)
            have own_3 := own_2.alloc (.cells (arA z A n c) 34)
            have iv_3 := iv_2.alloc (.cells (arA z A n c) 34)
            have x_3 := x_2.alloc (.cells (arA z A n c) 34)
            have y_3 := y_2.alloc (.cells (arA z A n c) 34)
            have sz_3 : W0.drew.heap.size ≤ ((W_2).alloc (.cells (arA z A n c) 34)).heap.size := by rw [sz1 _ _ rfl]; exact Nat.le_succ_of_le sz_2
            refine hK.out _ _ (s1_of x_3 y_3) (fun hHeld2 => ?_)
            clear hK K hHeld; have hHeld := hHeld2; clear hHeld2
            try simp only [Act.put, List.setIfInBounds_toArray, List.set_cons_zero, List.set_cons_succ]
            refine wpAnyH_ready (rs := [5]) (by kernel_rfl) (by simp) ?_
            refine AllReadyH.cons (o := { dst := some 92, op := Op.call { callee := Callee.builtin Builtin.append, args := #[Operand.tmp 89, Operand.tmp 91], argTypes := #[35, 35] }, type := 35, pos := "top22.go:84", after := #[{ on := 2, ground := Ground.data }, { on := 4, ground := Ground.data }, { on := 2, ground := Ground.chain }], guard := none }) rfl (fun K hK => ?_) (AllReadyH.nil)
            refine wp_append_any _ (.tmp 89) (.tmp 91) 35 rfl W0.drew.heap.size 34 i0i _ 2 40 Try.underlying35 HI.out hz0 hz1 hz2 rfl (by decide) _ (0 + nL) _ rfl own_3 _ _ 1 1 (flatA [⟨z, A, n, c, l⟩]) rfl (one_reads q_3) (flatA_one _) (by unfold maxLen; omega) (by omega) sz_3 ?_
            intro v_4 W_4 own_4 hg_4 hat_4
            have iv_4 : BI w W_4 := Below.grown iv_3.b hg_4 iv_3.b.size (fun g hg => Nat.le_trans iv0.b.size (own_lt9 own_3 g hg).1)
            have x_4 := x_3.grown hg_4 (fun e => by have q1 := (own_lt9 own_3 _ e.symm).1; have q2 := x0.lt; omega)
            have y_4 := y_3.grown hg_4 (fun e => by have q1 := (own_lt9 own_3 _ e.symm).1; have q2 := y0.lt; omega)
            have sz_4 : W0.drew.heap.size ≤ W_4.heap.size := Nat.le_trans sz_3 hg_4.size
            rw [List.nil_append, ← flatA_app, Nat.zero_add] at own_4
            obtain ⟨g9, c9, e9, hc9⟩ := own_formg own_4 (by omega)
            subst e9
            refine hK.out _ _ (s1_of x_4 y_4) (fun hHeld2 => ?_)
            clear hK K hHeld; have hHeld := hHeld2; clear hHeld2
            try simp only [Act.put, List.setIfInBounds_toArray, List.set_cons_zero, List.set_cons_succ]
            refine wpAnyH_ready (rs := [7]) (by kernel_rfl) (by simp) ?_
            refine AllReadyH.cons (o := { dst := some 94, op := Op.call { callee := Callee.value (Operand.func 21), args := #[Operand.tmp 92, Operand.tmp 93], argTypes := #[35, 23] }, type := 37, pos := "top22.go:84", after := #[{ on := 5, ground := Ground.data }, { on := 6, ground := Ground.data }, { on := 5, ground := Ground.chain }], guard := none }) rfl (fun K hK => ?_) (AllReadyH.nil)
            go_simp
            refine (hzm _ _ _ (ars_app rfl own_4 hL hA0 iv_4)).mono ?_; rintro e w_5 ⟨rfl, hb_5⟩
            have iv_5 := iv_4.call hb_5; have x_5 := x_4.below hb_5 x_4.lt; have y_5 := y_4.below hb_5 y_4.lt
            try go_wp2_with fail
            refine hK.out _ _ (s1_of x_5 y_5) (fun hHeld2 => ?_)
            clear hK K hHeld; have hHeld := hHeld2; clear hHeld2
            try simp only [Act.put, List.setIfInBounds_toArray, List.set_cons_zero, List.set_cons_succ]
            refine wpAnyH_take (i := 8) (oi := { dst := some 86, op := Op.move (Operand.tmp 94), type := 37, pos := "top22.go:84", after := #[{ on := 7, ground := Ground.data }], guard := none }) (v := ?_) rfl (by kernel_rfl) (by kernel_rfl) (by kernel_rfl) (fun _ _ _ h => h) (Or.inl ⟨by rfl, ?_⟩) hHeld ?_
            rotate_left
            · intro w hSw
              try dsimp only at hSw
              go_simp
              try with_reducible rfl
            try simp only [Act.put, List.setIfInBounds_toArray, List.set_cons_zero, List.set_cons_succ]
            refine wpAnyH_take (i := 9) (oi := { dst := some 95, op := Op.extract (Operand.tmp 86) 0, type := 9, pos := "top22.go:84", after := #[{ on := 8, ground := Ground.data }], guard := none }) (v := ?_) rfl (by kernel_rfl) (by kernel_rfl) (by kernel_rfl) (fun _ _ _ h => h) (Or.inl ⟨by rfl, ?_⟩) hHeld ?_
            rotate_left
            · intro w hSw
              try dsimp only at hSw
              go_simp
              try with_reducible rfl
            try simp only [Act.put, List.setIfInBounds_toArray, List.set_cons_zero, List.set_cons_succ]
            refine wpAnyH_take (i := 10) (oi := { dst := some 96, op := Op.extract (Operand.tmp 86) 1, type := 25, pos := "top22.go:84", after := #[{ on := 8, ground := Ground.data }, { on := 11, ground := Ground.gcOnly Departure.lateStores }], guard := none }) (v := ?_) rfl (by kernel_rfl) (by kernel_rfl) (by kernel_rfl) (fun _ _ _ h => h) (Or.inl ⟨by rfl, ?_⟩) hHeld ?_
            rotate_left
            · intro w hSw
              try dsimp only at hSw
              go_simp
              try with_reducible rfl
            try simp only [Act.put, List.setIfInBounds_toArray, List.set_cons_zero, List.set_cons_succ]
            refine wpAnyH_take (i := 11) (oi := { dst := some 16, op := Op.assign (Operand.tmp 95), type := 9, pos := "top22.go:84", after := #[{ on := 9, ground := Ground.data }, { on := 7, ground := Ground.chain }, { on := 0, ground := Ground.phase }, { on := 1, ground := Ground.phase }, { on := 2, ground := Ground.phase }, { on := 3, ground := Ground.phase }, { on := 4, ground := Ground.phase }, { on := 5, ground := Ground.phase }, { on := 6, ground := Ground.phase }, { on := 7, ground := Ground.phase }, { on := 8, ground := Ground.phase }, { on := 9, ground := Ground.phase }, { on := 10, ground := Ground.textOnly Departure.lateStores }], guard := none }) (v := ?_) rfl (by kernel_rfl) (by kernel_rfl) (by kernel_rfl) (fun _ _ _ h => h) (Or.inl ⟨by rfl, ?_⟩) hHeld ?_
            rotate_left
            · intro w hSw
              try dsimp only at hSw
              go_simp
              try with_reducible rfl
            try simp only [Act.put, List.setIfInBounds_toArray, List.set_cons_zero, List.set_cons_succ]
            refine wpAnyH_take (i := 12) (oi := { dst := some 17, op := Op.assign (Operand.tmp 96), type := 25, pos := "top22.go:84", after := #[{ on := 10, ground := Ground.data }, { on := 11, ground := Ground.chain }, { on := 0, ground := Ground.phase }, { on := 1, ground := Ground.phase }, { on := 2, ground := Ground.phase }, { on := 3, ground := Ground.phase }, { on := 4, ground := Ground.phase }, { on := 5, ground := Ground.phase }, { on := 6, ground := Ground.phase }, { on := 7, ground := Ground.phase }, { on := 8, ground := Ground.phase }, { on := 9, ground := Ground.phase }, { on := 10, ground := Ground.phase }, { on := 11, ground := Ground.phase }], guard := none }) (v := ?_) rfl (by kernel_rfl) (by kernel_rfl) (by kernel_rfl) (fun _ _ _ h => h) (Or.inl ⟨by rfl, ?_⟩) hHeld ?_
            rotate_left
            · intro w hSw
              try dsimp only at hSw
              go_simp
              try with_reducible rfl
            try simp only [Act.put, List.setIfInBounds_toArray, List.set_cons_zero, List.set_cons_succ]
            refine wpAnyH_done (by kernel_rfl) ?_ _
            clear hHeld
            go_wp2_with (first | refine wpList_row_g rfl 34 _ rfl _ rfl _ _ _ _ x_5 Try.underlying34 rfl (by kernel_rfl) ?_ | refine wpList_row_g rfl 23 _ rfl _ rfl _ _ _ _ y_5 Try.underlying23 rfl (by kernel_rfl) ?_)
            refine (hin _ iv_5).mono ?_; rintro e w8 ⟨rfl, hb8⟩
            have i8 := iv_5.call hb8
            have d8 : w8.cell? ⟨w.heap.size + 1, 0, none⟩ = some (.string z) := (x_5.below hb8 x_5.lt).cell 0
            go_wp2_with fail
            go_ret
            exact ⟨rfl, i8⟩
          · skip
            go_simp
            have q_6 := blk_at ((W0.drew).alloc (.cells (#[] : Array Value) 34)) 34 (arA z A n c) (sz1 W0.drew _ rfl)
            have own_6 := own_1.alloc (.cells (arA z A n c) 34)
            have iv_6 := iv_1.alloc (.cells (arA z A n c) 34)
            have x_6 := x_1.alloc (.cells (arA z A n c) 34)
            have y_6 := y_1.alloc (.cells (arA z A n c) 34)
            have sz_6 : W0.drew.heap.size ≤ (((W0.drew).alloc (.cells (#[] : Array Value) 34)).alloc (.cells (arA z A n c) 34)).heap.size := by rw [sz1 _ _ rfl]; exact Nat.le_succ_of_le sz_1
            refine hK.out _ _ (s1_of x_6 y_6) (fun hHeld2 => ?_)
            clear hK K hHeld; have hHeld := hHeld2; clear hHeld2
            try simp only [Act.put, List.setIfInBounds_toArray, List.set_cons_zero, List.set_cons_succ]
            refine wpAnyH_ready (rs := [2]) (by kernel_rfl) (by simp) ?_
            refine AllReadyH.cons (o := { dst := some 89, op := Op.call { callee := Callee.builtin Builtin.append, args := #[Operand.tmp 87, Operand.tmp 88], argTypes := #[35, 35] }, type := 35, pos := "top22.go:84", after := #[{ on := 0, ground := Ground.data }, { on := 1, ground := Ground.data }], guard := none }) rfl (fun K hK => ?_) (AllReadyH.nil)
            refine wp_append_any _ (.tmp 87) (.tmp 88) 35 rfl W0.drew.heap.size 34 i0i _ 2 40 Try.underlying35 HI.out hz0 hz1 hz2 rfl (by decide) _ 0 _ rfl own_6 _ _ nL cL (flatA L) rfl (hL.below iv_6.b).r (flatA_one L) (by unfold maxLen; omega) (by omega) sz_6 ?_
            intro v_7 W_7 own_7 hg_7 hat_7
            have iv_7 : BI w W_7 := Below.grown iv_6.b hg_7 iv_6.b.size (fun g hg => Nat.le_trans iv0.b.size (own_lt9 own_6 g hg).1)
            have x_7 := x_6.grown hg_7 (fun e => by have q1 := (own_lt9 own_6 _ e.symm).1; have q2 := x0.lt; omega)
            have y_7 := y_6.grown hg_7 (fun e => by have q1 := (own_lt9 own_6 _ e.symm).1; have q2 := y0.lt; omega)
            have q_7 := q_6.grown hg_7 (fun e => by first | (have e2 : some (W0.drew.heap.size + 1) = some W0.drew.heap.size := e; injection e2; omega) | (have e2 : some W0.drew.heap.size = some (W0.drew.heap.size + 1) := e; injection e2; omega))
            have sz_7 : W0.drew.heap.size ≤ W_7.heap.size := Nat.le_trans sz_6 hg_7.size
            refine hK.out _ _ (s1_of x_7 y_7) (fun hHeld2 => ?_)
            clear hK K hHeld; have hHeld := hHeld2; clear hHeld2
            try simp only [Act.put, List.setIfInBounds_toArray, List.set_cons_zero, List.set_cons_succ]
            refine wpAnyH_ready (rs := [5]) (by kernel_rfl) (by simp) ?_
            refine AllReadyH.cons (o := { dst := some 92, op := Op.call { callee := Callee.builtin Builtin.append, args := #[Operand.tmp 89, Operand.tmp 91], argTypes := #[35, 35] }, type := 35, pos := "top22.go:84", after := #[{ on := 2, ground := Ground.data }, { on := 4, ground := Ground.data }, { on := 2, ground := Ground.chain }], guard := none }) rfl (fun K hK => ?_) (AllReadyH.nil)
            refine wp_append_any _ (.tmp 89) (.tmp 91) 35 rfl W0.drew.heap.size 34 i0i _ 2 40 Try.underlying35 HI.out hz0 hz1 hz2 rfl (by decide) _ (0 + nL) _ rfl own_7 _ _ 1 1 (flatA [⟨z, A, n, c, l⟩]) rfl (one_reads q_7) (flatA_one _) (by unfold maxLen; omega) (by omega) sz_7 ?_
            intro v_8 W_8 own_8 hg_8 hat_8
            have iv_8 : BI w W_8 := Below.grown iv_7.b hg_8 iv_7.b.size (fun g hg => Nat.le_trans iv0.b.size (own_lt9 own_7 g hg).1)
            have x_8 := x_7.grown hg_8 (fun e => by have q1 := (own_lt9 own_7 _ e.symm).1; have q2 := x0.lt; omega)
            have y_8 := y_7.grown hg_8 (fun e => by have q1 := (own_lt9 own_7 _ e.symm).1; have q2 := y0.lt; omega)
            have sz_8 : W0.drew.heap.size ≤ W_8.heap.size := Nat.le_trans sz_7 hg_8.size
            rw [List.nil_append, ← flatA_app, Nat.zero_add] at own_8
            obtain ⟨g9, c9, e9, hc9⟩ := own_formg own_8 (by omega)
            subst e9
            refine hK.out _ _ (s1_of x_8 y_8) (fun hHeld2 => ?_)
            clear hK K hHeld; have hHeld := hHeld2; clear hHeld2
            try simp only [Act.put, List.setIfInBounds_toArray, List.set_cons_zero, List.set_cons_succ]
            refine wpAnyH_ready (rs := [7]) (by kernel_rfl) (by simp) ?_
            refine AllReadyH.cons (o := { dst := some 94, op := Op.call { callee := Callee.value (Operand.func 21), args := #[Operand.tmp 92, Operand.tmp 93], argTypes := #[35, 23] }, type := 37, pos := "top22.go:84", after := #[{ on := 5, ground := Ground.data }, { on := 6, ground := Ground.data }, { on := 5, ground := Ground.chain }], guard := none }) rfl (fun K hK => ?_) (AllReadyH.nil)
            go_simp
            refine (hzm _ _ _ (ars_app rfl own_8 hL hA0 iv_8)).mono ?_; rintro e w_9 ⟨rfl, hb_9⟩
            have iv_9 := iv_8.call hb_9; have x_9 := x_8.below hb_9 x_8.lt; have y_9 := y_8.below hb_9 y_8.lt
            try go_wp2_with fail
            refine hK.out _ _ (s1_of x_9 y_9) (fun hHeld2 => ?_)
            clear hK K hHeld; have hHeld := hHeld2; clear hHeld2
            try simp only [Act.put, List.setIfInBounds_toArray, List.set_cons_zero, List.set_cons_succ]
            refine wpAnyH_take (i := 8) (oi := { dst := some 86, op := Op.move (Operand.tmp 94), type := 37, pos := "top22.go:84", after := #[{ on := 7, ground := Ground.data }], guard := none }) (v := ?_) rfl (by kernel_rfl) (by kernel_rfl) (by kernel_rfl) (fun _ _ _ h => h) (Or.inl ⟨by rfl, ?_⟩) hHeld ?_
            rotate_left
            · intro w hSw
              try dsimp only at hSw
              go_simp
              try with_reducible rfl
            try simp only [Act.put, List.setIfInBounds_toArray, List.set_cons_zero, List.set_cons_succ]
            refine wpAnyH_take (i := 9) (oi := { dst := some 95, op := Op.extract (Operand.tmp 86) 0, type := 9, pos := "top22.go:84", after := #[{ on := 8, ground := Ground.data }], guard := none }) (v := ?_) rfl (by kernel_rfl) (by kernel_rfl) (by kernel_rfl) (fun _ _ _ h => h) (Or.inl ⟨by rfl, ?_⟩) hHeld ?_
            rotate_left
            · intro w hSw
              try dsimp only at hSw
              go_simp
              try with_reducible rfl
            try simp only [Act.put, List.setIfInBounds_toArray, List.set_cons_zero, List.set_cons_succ]
            refine wpAnyH_take (i := 10) (oi := { dst := some 96, op := Op.extract (Operand.tmp 86) 1, type := 25, pos := "top22.go:84", after := #[{ on := 8, ground := Ground.data }, { on := 11, ground := Ground.gcOnly Departure.lateStores }], guard := none }) (v := ?_) rfl (by kernel_rfl) (by kernel_rfl) (by kernel_rfl) (fun _ _ _ h => h) (Or.inl ⟨by rfl, ?_⟩) hHeld ?_
            rotate_left
            · intro w hSw
              try dsimp only at hSw
              go_simp
              try with_reducible rfl
            try simp only [Act.put, List.setIfInBounds_toArray, List.set_cons_zero, List.set_cons_succ]
            refine wpAnyH_take (i := 11) (oi := { dst := some 16, op := Op.assign (Operand.tmp 95), type := 9, pos := "top22.go:84", after := #[{ on := 9, ground := Ground.data }, { on := 7, ground := Ground.chain }, { on := 0, ground := Ground.phase }, { on := 1, ground := Ground.phase }, { on := 2, ground := Ground.phase }, { on := 3, ground := Ground.phase }, { on := 4, ground := Ground.phase }, { on := 5, ground := Ground.phase }, { on := 6, ground := Ground.phase }, { on := 7, ground := Ground.phase }, { on := 8, ground := Ground.phase }, { on := 9, ground := Ground.phase }, { on := 10, ground := Ground.textOnly Departure.lateStores }], guard := none }) (v := ?_) rfl (by kernel_rfl) (by kernel_rfl) (by kernel_rfl) (fun _ _ _ h => h) (Or.inl ⟨by rfl, ?_⟩) hHeld ?_
            rotate_left
            · intro w hSw
              try dsimp only at hSw
              go_simp
              try with_reducible rfl
            try simp only [Act.put, List.setIfInBounds_toArray, List.set_cons_zero, List.set_cons_succ]
            refine wpAnyH_take (i := 12) (oi := { dst := some 17, op := Op.assign (Operand.tmp 96), type := 25, pos := "top22.go:84", after := #[{ on := 10, ground := Ground.data }, { on := 11, ground := Ground.chain }, { on := 0, ground := Ground.phase }, { on := 1, ground := Ground.phase }, { on := 2, ground := Ground.phase }, { on := 3, ground := Ground.phase }, { on := 4, ground := Ground.phase }, { on := 5, ground := Ground.phase }, { on := 6, ground := Ground.phase }, { on := 7, ground := Ground.phase }, { on := 8, ground := Ground.phase }, { on := 9, ground := Ground.phase }, { on := 10, ground := Ground.phase }, { on := 11, ground := Ground.phase }], guard := none }) (v := ?_) rfl (by kernel_rfl) (by kernel_rfl) (by kernel_rfl) (fun _ _ _ h => h) (Or.inl ⟨by rfl, ?_⟩) hHeld ?_
            rotate_left
            · intro w hSw
              try dsimp only at hSw
              go_simp
              try with_reducible rfl
            try simp only [Act.put, List.setIfInBounds_toArray, List.set_cons_zero, List.set_cons_succ]
            refine wpAnyH_done (by kernel_rfl) ?_ _
            clear hHeld
            go_wp2_with (first | refine wpList_row_g rfl 34 _ rfl _ rfl _ _ _ _ x_9 Try.underlying34 rfl (by kernel_rfl) ?_ | refine wpList_row_g rfl 23 _ rfl _ rfl _ _ _ _ y_9 Try.underlying23 rfl (by kernel_rfl) ?_)
            refine (hin _ iv_9).mono ?_; rintro e w8 ⟨rfl, hb8⟩
            have i8 := iv_9.call hb8
            have d8 : w8.cell? ⟨w.heap.size + 1, 0, none⟩ = some (.string z) := (x_9.below hb8 x_9.lt).cell 0
            go_wp2_with fail
            go_ret
            exact ⟨rfl, i8⟩
        · skip
          go_simp
          have q_10 := Blk.new (W0.drew) 34 (arA z A n c)
          have iv_10 := iv0.alloc (.cells (arA z A n c) 34)
          have x_10 := x0.alloc (.cells (arA z A n c) 34)
          have y_10 := y0.alloc (.cells (arA z A n c) 34)
          have sz_10 : W0.drew.heap.size ≤ ((W0.drew).alloc (.cells (arA z A n c) 34)).heap.size := by rw [sz1 _ _ rfl]; exact Nat.le_succ_of_le (Nat.le_refl W0.drew.heap.size)
          refine hK.out _ _ (s1_of x_10 y_10) (fun hHeld2 => ?_)
          clear hK K hHeld; have hHeld := hHeld2; clear hHeld2
          try simp only [Act.put, List.setIfInBounds_toArray, List.set_cons_zero, List.set_cons_succ]
          refine wpAnyH_ready (rs := [0]) (by kernel_rfl) (by simp) ?_
          refine AllReadyH.cons (o := { dst := some 87, op := Op.buildSlice 35 0 #[], type := 35, pos := "top22.go:84", after := #[], guard := none }) rfl (fun K hK => ?_) (AllReadyH.nil)
          go_simp
          have own_11 := own_xA (base := W0.drew.heap.size) ((W0.drew).alloc (.cells (arA z A n c) 34)) sz_10
          rw [sz1 W0.drew _ rfl] at own_11
          have q_11 := q_10.alloc (.cells (#[] : Array Value) 34)
          have iv_11 := iv_10.alloc (.cells (#[] : Array Value) 34)
          have x_11 := x_10.alloc (.cells (#[] : Array Value) 34)
          have y_11 := y_10.alloc (.cells (#[] : Array Value) 34)
          have sz_11 : W0.drew.heap.size ≤ (((W0.drew).alloc (.cells (arA z A n c) 34)).alloc (.cells (#[] : Array Value) 34)).heap.size := by rw [sz1 _ _ rfl]; exact Nat.le_succ_of_le sz_10
          refine hK.out _ _ (s1_of x_11 y_11) (fun hHeld2 => ?_)
          clear hK K hHeld; have hHeld := hHeld2; clear hHeld2
          try simp only [Act.put, List.setIfInBounds_toArray, List.set_cons_zero, List.set_cons_succ]
          refine wpAnyH_ready (rs := [2]) (by kernel_rfl) (by simp) ?_
          refine AllReadyH.cons (o := { dst := some 89, op := Op.call { callee := Callee.builtin Builtin.append, args := #[Operand.tmp 87, Operand.tmp 88], argTypes := #[35, 35] }, type := 35, pos := "top22.go:84", after := #[{ on := 0, ground := Ground.data }, { on := 1, ground := Ground.data }], guard := none }) rfl (fun K hK => ?_) (AllReadyH.nil)
          refine wp_append_any _ (.tmp 87) (.tmp 88) 35 rfl W0.drew.heap.size 34 i0i _ 2 40 Try.underlying35 HI.out hz0 hz1 hz2 rfl (by decide) _ 0 _ rfl own_11 _ _ nL cL (flatA L) rfl (hL.below iv_11.b).r (flatA_one L) (by unfold maxLen; omega) (by omega) sz_11 ?_
          intro v_12 W_12 own_12 hg_12 hat_12
          have iv_12 : BI w W_12 := Below.grown iv_11.b hg_12 iv_11.b.size (fun g hg => Nat.le_trans iv0.b.size (own_lt9 own_11 g hg).1)
          have x_12 := x_11.grown hg_12 (fun e => by have q1 := (own_lt9 own_11 _ e.symm).1; have q2 := x0.lt; omega)
          have y_12 := y_11.grown hg_12 (fun e => by have q1 := (own_lt9 own_11 _ e.symm).1; have q2 := y0.lt; omega)
          have q_12 := q_11.grown hg_12 (fun e => by first | (have e2 : some (W0.drew.heap.size + 1) = some W0.drew.heap.size := e; injection e2; omega) | (have e2 : some W0.drew.heap.size = some (W0.drew.heap.size + 1) := e; injection e2; omega))
          have sz_12 : W0.drew.heap.size ≤ W_12.heap.size := Nat.le_trans sz_11 hg_12.size
          refine hK.out _ _ (s1_of x_12 y_12) (fun hHeld2 => ?_)
          clear hK K hHeld; have hHeld := hHeld2; clear hHeld2
          try simp only [Act.put, List.setIfInBounds_toArray, List.set_cons_zero, List.set_cons_succ]
          refine wpAnyH_ready (rs := [5]) (by kernel_rfl) (by simp) ?_
          refine AllReadyH.cons (o := { dst := some 92, op := Op.call { callee := Callee.builtin Builtin.append, args := #[Operand.tmp 89, Operand.tmp 91], argTypes := #[35, 35] }, type := 35, pos := "top22.go:84", after := #[{ on := 2, ground := Ground.data }, { on := 4, ground := Ground.data }, { on := 2, ground := Ground.chain }], guard := none }) rfl (fun K hK => ?_) (AllReadyH.nil)
          refine wp_append_any _ (.tmp 89) (.tmp 91) 35 rfl W0.drew.heap.size 34 i0i _ 2 40 Try.underlying35 HI.out hz0 hz1 hz2 rfl (by decide) _ (0 + nL) _ rfl own_12 _ _ 1 1 (flatA [⟨z, A, n, c, l⟩]) rfl (one_reads q_12) (flatA_one _) (by unfold maxLen; omega) (by omega) sz_12 ?_
          intro v_13 W_13 own_13 hg_13 hat_13
          have iv_13 : BI w W_13 := Below.grown iv_12.b hg_13 iv_12.b.size (fun g hg => Nat.le_trans iv0.b.size (own_lt9 own_12 g hg).1)
          have x_13 := x_12.grown hg_13 (fun e => by have q1 := (own_lt9 own_12 _ e.symm).1; have q2 := x0.lt; omega)
          have y_13 := y_12.grown hg_13 (fun e => by have q1 := (own_lt9 own_12 _ e.symm).1; have q2 := y0.lt; omega)
          have sz_13 : W0.drew.heap.size ≤ W_13.heap.size := Nat.le_trans sz_12 hg_13.size
          rw [List.nil_append, ← flatA_app, Nat.zero_add] at own_13
          obtain ⟨g9, c9, e9, hc9⟩ := own_formg own_13 (by omega)
          subst e9
          refine hK.out _ _ (s1_of x_13 y_13) (fun hHeld2 => ?_)
          clear hK K hHeld; have hHeld := hHeld2; clear hHeld2
          try simp only [Act.put, List.setIfInBounds_toArray, List.set_cons_zero, List.set_cons_succ]
          refine wpAnyH_ready (rs := [7]) (by kernel_rfl) (by simp) ?_
          refine AllReadyH.cons (o := { dst := some 94, op := Op.call { callee := Callee.value (Operand.func 21), args := #[Operand.tmp 92, Operand.tmp 93], argTypes := #[35, 23] }, type := 37, pos := "top22.go:84", after := #[{ on := 5, ground := Ground.data }, { on := 6, ground := Ground.data }, { on := 5, ground := Ground.chain }], guard := none }) rfl (fun K hK => ?_) (AllReadyH.nil)
          go_simp
          refine (hzm _ _ _ (ars_app rfl own_13 hL hA0 iv_13)).mono ?_; rintro e w_14 ⟨rfl, hb_14⟩
          have iv_14 := iv_13.call hb_14; have x_14 := x_13.below hb_14 x_13.lt; have y_14 := y_13.below hb_14 y_13.lt
          try go_wp2_with fail
          refine hK.out _ _ (s1_of x_14 y_14) (fun hHeld2 => ?_)
          clear hK K hHeld; have hHeld := hHeld2; clear hHeld2
          try simp only [Act.put, List.setIfInBounds_toArray, List.set_cons_zero, List.set_cons_succ]
          refine wpAnyH_take (i := 8) (oi := { dst := some 86, op := Op.move (Operand.tmp 94), type := 37, pos := "top22.go:84", after := #[{ on := 7, ground := Ground.data }], guard := none }) (v := ?_) rfl (by kernel_rfl) (by kernel_rfl) (by kernel_rfl) (fun _ _ _ h => h) (Or.inl ⟨by rfl, ?_⟩) hHeld ?_
          rotate_left
          · intro w hSw
            try dsimp only at hSw
            go_simp
            try with_reducible rfl
          try simp only [Act.put, List.setIfInBounds_toArray, List.set_cons_zero, List.set_cons_succ]
          refine wpAnyH_take (i := 9) (oi := { dst := some 95, op := Op.extract (Operand.tmp 86) 0, type := 9, pos := "top22.go:84", after := #[{ on := 8, ground := Ground.data }], guard := none }) (v := ?_) rfl (by kernel_rfl) (by kernel_rfl) (by kernel_rfl) (fun _ _ _ h => h) (Or.inl ⟨by rfl, ?_⟩) hHeld ?_
          rotate_left
          · intro w hSw
            try dsimp only at hSw
            go_simp
            try with_reducible rfl
          try simp only [Act.put, List.setIfInBounds_toArray, List.set_cons_zero, List.set_cons_succ]
          refine wpAnyH_take (i := 10) (oi := { dst := some 96, op := Op.extract (Operand.tmp 86) 1, type := 25, pos := "top22.go:84", after := #[{ on := 8, ground := Ground.data }, { on := 11, ground := Ground.gcOnly Departure.lateStores }], guard := none }) (v := ?_) rfl (by kernel_rfl) (by kernel_rfl) (by kernel_rfl) (fun _ _ _ h => h) (Or.inl ⟨by rfl, ?_⟩) hHeld ?_
          rotate_left
          · intro w hSw
            try dsimp only at hSw
            go_simp
            try with_reducible rfl
          try simp only [Act.put, List.setIfInBounds_toArray, List.set_cons_zero, List.set_cons_succ]
          refine wpAnyH_take (i := 11) (oi := { dst := some 16, op := Op.assign (Operand.tmp 95), type := 9, pos := "top22.go:84", after := #[{ on := 9, ground := Ground.data }, { on := 7, ground := Ground.chain }, { on := 0, ground := Ground.phase }, { on := 1, ground := Ground.phase }, { on := 2, ground := Ground.phase }, { on := 3, ground := Ground.phase }, { on := 4, ground := Ground.phase }, { on := 5, ground := Ground.phase }, { on := 6, ground := Ground.phase }, { on := 7, ground := Ground.phase }, { on := 8, ground := Ground.phase }, { on := 9, ground := Ground.phase }, { on := 10, ground := Ground.textOnly Departure.lateStores }], guard := none }) (v := ?_) rfl (by kernel_rfl) (by kernel_rfl) (by kernel_rfl) (fun _ _ _ h => h) (Or.inl ⟨by rfl, ?_⟩) hHeld ?_
          rotate_left
          · intro w hSw
            try dsimp only at hSw
            go_simp
            try with_reducible rfl
          try simp only [Act.put, List.setIfInBounds_toArray, List.set_cons_zero, List.set_cons_succ]
          refine wpAnyH_take (i := 12) (oi := { dst := some 17, op := Op.assign (Operand.tmp 96), type := 25, pos := "top22.go:84", after := #[{ on := 10, ground := Ground.data }, { on := 11, ground := Ground.chain }, { on := 0, ground := Ground.phase }, { on := 1, ground := Ground.phase }, { on := 2, ground := Ground.phase }, { on := 3, ground := Ground.phase }, { on := 4, ground := Ground.phase }, { on := 5, ground := Ground.phase }, { on := 6, ground := Ground.phase }, { on := 7, ground := Ground.phase }, { on := 8, ground := Ground.phase }, { on := 9, ground := Ground.phase }, { on := 10, ground := Ground.phase }, { on := 11, ground := Ground.phase }], guard := none }) (v := ?_) rfl (by kernel_rfl) (by kernel_rfl) (by kernel_rfl) (fun _ _ _ h => h) (Or.inl ⟨by rfl, ?_⟩) hHeld ?_
          rotate_left
          · intro w hSw
            try dsimp only at hSw
            go_simp
            try with_reducible rfl
          try simp only [Act.put, List.setIfInBounds_toArray, List.set_cons_zero, List.set_cons_succ]
          refine wpAnyH_done (by kernel_rfl) ?_ _
          clear hHeld
          go_wp2_with (first | refine wpList_row_g rfl 34 _ rfl _ rfl _ _ _ _ x_14 Try.underlying34 rfl (by kernel_rfl) ?_ | refine wpList_row_g rfl 23 _ rfl _ rfl _ _ _ _ y_14 Try.underlying23 rfl (by kernel_rfl) ?_)
          refine (hin _ iv_14).mono ?_; rintro e w8 ⟨rfl, hb8⟩
          have i8 := iv_14.call hb8
          have d8 : w8.cell? ⟨w.heap.size + 1, 0, none⟩ = some (.string z) := (x_14.below hb8 x_14.lt).cell 0
          go_wp2_with fail
          go_ret
          exact ⟨rfl, i8⟩
      · rw [hI] at hin
        rw [show (match (none : Option Ae) with | some b => some b | none => if inB l p = true then some (⟨z, A, n, c, l⟩ : Ae) else none) = some ⟨z, A, n, c, l⟩ by rw [hI]; rfl] at hfa
        obtain ⟨e1, e2⟩ := zo_some hgood hfa
        rw [e1, e2] at hzm
        clear hgood hfa hI e1 e2
        go_wp2_with (first | refine wpList_row_g rfl 34 _ rfl _ rfl _ _ _ _ hx Try.underlying34 rfl (by kernel_rfl) ?_)
        refine hck.mono ?_; rintro e w7 ⟨rfl, hb7⟩
        have i7 := hb.call hb7; have x7 := hx.below hb7 hx.lt; have y7 := hy.below hb7 hy.lt
        clear hb hx hy hb7 hck
        go_upto_region 28 with fail
        obtain ⟨W0, rfl⟩ : ∃ W0 : World, W0 = w7 := ⟨_, rfl⟩
        have x0 : Blk W0.drew (w.heap.size + 1) 34 (arA z A n c) := x7
        have y0 : Blk W0.drew w.heap.size 23 p.A := y7
        have iv0 : BI w W0.drew := i7.drew
        clear x7 y7 i7
        refine wp_region_held_drew (S := fun w' => Blk w' (w.heap.size + 1) 34 (arA z A n c) ∧ ldT 34 (.pointer (some ⟨w.heap.size + 1, 0, none⟩)) w' = some (arA z A n c) ∧ Blk w' w.heap.size 23 p.A ∧ ldT 23 (.pointer (some ⟨w.heap.size, 0, none⟩)) w' = some p.A) (by kernel_rfl) (s1_of x0 y0) (fun hHeld => ?_)
        refine wpAnyH_take (i := 1) (oi := { dst := some 88, op := Op.move (Operand.tmp 0), type := 35, pos := "top22.go:84", after := #[], guard := none }) (v := ?_) rfl (by kernel_rfl) (by kernel_rfl) (by kernel_rfl) (fun _ _ _ h => h) (Or.inl ⟨by rfl, ?_⟩) hHeld ?_
        rotate_left
        · intro w hSw
          try dsimp only at hSw
          go_simp
          try with_reducible rfl
        try simp only [Act.put, List.setIfInBounds_toArray, List.set_cons_zero, List.set_cons_succ]
        refine wpAnyH_take (i := 3) (oi := { dst := some 90, op := Op.load 34 (Operand.tmp 5), type := 34, pos := "top22.go:84", after := #[], guard := none }) (v := ?_) rfl (by kernel_rfl) (by kernel_rfl) (by kernel_rfl) (fun _ _ _ h => h) (Or.inl ⟨by rfl, ?_⟩) hHeld ?_
        rotate_left
        · intro w hSw
          try dsimp only at hSw
          go_simp
          try with_reducible rfl
        try simp only [Act.put, List.setIfInBounds_toArray, List.set_cons_zero, List.set_cons_succ]
        refine wpAnyH_take (i := 6) (oi := { dst := some 93, op := Op.load 23 (Operand.tmp 4), type := 23, pos := "top22.go:84", after := #[], guard := none }) (v := ?_) rfl (by kernel_rfl) (by kernel_rfl) (by kernel_rfl) (fun _ _ _ h => h) (Or.inl ⟨by rfl, ?_⟩) hHeld ?_
        rotate_left
        · intro w hSw
          try dsimp only at hSw
          go_simp
          try with_reducible rfl
        try simp only [Act.put, List.setIfInBounds_toArray, List.set_cons_zero, List.set_cons_succ]
        refine wpAnyH_ready (rs := [0, 4]) (by kernel_rfl) (by simp) ?_
        refine AllReadyH.cons (o := { dst := some 87, op := Op.buildSlice 35 0 #[], type := 35, pos := "top22.go:84", after := #[], guard := none }) rfl (fun K hK => ?_) (AllReadyH.cons (o := { dst := some 91, op := Op.buildSlice 35 1 #[(0, Operand.tmp 90)], type := 35, pos := "top22.go:84", after := #[{ on := 3, ground := Ground.data }], guard := none }) rfl (fun K hK => ?_) (AllReadyH.nil))
        · skip
          go_simp
          have own_1 := own_xA (base := W0.drew.heap.size) (W0.drew) (Nat.le_refl W0.drew.heap.size)
          have iv_1 := iv0.alloc (.cells (#[] : Array Value) 34)
          have x_1 := x0.alloc (.cells (#[] : Array Value) 34)
          have y_1 := y0.alloc (.cells (#[] : Array Value) 34)
          have sz_1 : W0.drew.heap.size ≤ ((W0.drew).alloc (.cells (#[] : Array Value) 34)).heap.size := by rw [sz1 _ _ rfl]; exact Nat.le_succ_of_le (Nat.le_refl W0.drew.heap.size)
          refine hK.out _ _ (s1_of x_1 y_1) (fun hHeld2 => ?_)
          clear hK K hHeld; have hHeld := hHeld2; clear hHeld2
          try simp only [Act.put, List.setIfInBounds_toArray, List.set_cons_zero, List.set_cons_succ]
          refine wpAnyH_ready (rs := [2, 4]) (by kernel_rfl) (by simp) ?_
          refine AllReadyH.cons (o := { dst := some 89, op := Op.call { callee := Callee.builtin Builtin.append, args := #[Operand.tmp 87, Operand.tmp 88], argTypes := #[35, 35] }, type := 35, pos := "top22.go:84", after := #[{ on := 0, ground := Ground.data }, { on := 1, ground := Ground.data }], guard := none }) rfl (fun K hK => ?_) (AllReadyH.cons (o := { dst := some 91, op := Op.buildSlice 35 1 #[(0, Operand.tmp 90)], type := 35, pos := "top22.go:84", after := #[{ on := 3, ground := Ground.data }], guard := none }) rfl (fun K hK => ?_) (AllReadyH.nil))
          · skip
            refine wp_append_any _ (.tmp 87) (.tmp 88) 35 rfl W0.drew.heap.size 34 i0i _ 2 40 Try.underlying35 HI.out hz0 hz1 hz2 rfl (by decide) _ 0 _ rfl own_1 _ _ nL cL (flatA L) rfl (hL.below iv_1.b).r (flatA_one L) (by unfold maxLen; omega) (by omega) sz_1 ?_
            intro v_2 W_2 own_2 hg_2 hat_2
            have iv_2 : BI w W_2 := Below.grown iv_1.b hg_2 iv_1.b.size (fun g hg => Nat.le_trans iv0.b.size (own_lt9 own_1 g hg).1)
            have x_2 := x_1.grown hg_2 (fun e => by have q1 := (own_lt9 own_1 _ e.symm).1; have q2 := x0.lt; omega)
            have y_2 := y_1.grown hg_2 (fun e => by have q1 := (own_lt9 own_1 _ e.symm).1; have q2 := y0.lt; omega)
            have sz_2 : W0.drew.heap.size ≤ W_2.heap.size := Nat.le_trans sz_1 hg_2.size
            refine hK.out _ _ (s1_of x_2 y_2) (fun hHeld2 => ?_)
            clear hK K hHeld; have hHeld := hHeld2; clear hHeld2
            try simp only [Act.put, List.setIfInBounds_toArray, List.set_cons_zero, List.set_cons_succ]
            refine wpAnyH_ready (rs := [4]) (by kernel_rfl) (by simp) ?_
            refine AllReadyH.cons (o := { dst := some 91, op := Op.buildSlice 35 1 #[(0, Operand.tmp 90)], type := 35, pos := "top22.go:84", after := #[{ on := 3, ground := Ground.data }], guard := none }) rfl (fun K hK => ?_) (AllReadyH.nil)
            go_simp
            have q_3 := Blk.new (W_2) 34 (arA z A n c)
            have own_3 := own_2.alloc (.cells (arA z A n c) 34)
            have iv_3 := iv_2.alloc (.cells (arA z A n c) 34)
            have x_3 := x_2.alloc (.cells (arA z A n c) 34)
            have y_3 := y_2.alloc (.cells (arA z A n c) 34)
            have sz_3 : W0.drew.heap.size ≤ ((W_2).alloc (.cells (arA z A n c) 34)).heap.size := by rw [sz1 _ _ rfl]; exact Nat.le_succ_of_le sz_2
            refine hK.out _ _ (s1_of x_3 y_3) (fun hHeld2 => ?_)
            clear hK K hHeld; have hHeld := hHeld2; clear hHeld2
            try simp only [Act.put, List.setIfInBounds_toArray, List.set_cons_zero, List.set_cons_succ]
            refine wpAnyH_ready (rs := [5]) (by kernel_rfl) (by simp) ?_
            refine AllReadyH.cons (o := { dst := some 92, op := Op.call { callee := Callee.builtin Builtin.append, args := #[Operand.tmp 89, Operand.tmp 91], argTypes := #[35, 35] }, type := 35, pos := "top22.go:84", after := #[{ on := 2, ground := Ground.data }, { on := 4, ground := Ground.data }, { on := 2, ground := Ground.chain }], guard := none }) rfl (fun K hK => ?_) (AllReadyH.nil)
            refine wp_append_any _ (.tmp 89) (.tmp 91) 35 rfl W0.drew.heap.size 34 i0i _ 2 40 Try.underlying35 HI.out hz0 hz1 hz2 rfl (by decide) _ (0 + nL) _ rfl own_3 _ _ 1 1 (flatA [⟨z, A, n, c, l⟩]) rfl (one_reads q_3) (flatA_one _) (by unfold maxLen; omega) (by omega) sz_3 ?_
            intro v_4 W_4 own_4 hg_4 hat_4
            have iv_4 : BI w W_4 := Below.grown iv_3.b hg_4 iv_3.b.size (fun g hg => Nat.le_trans iv0.b.size (own_lt9 own_3 g hg).1)
            have x_4 := x_3.grown hg_4 (fun e => by have q1 := (own_lt9 own_3 _ e.symm).1; have q2 := x0.lt; omega)
            have y_4 := y_3.grown hg_4 (fun e => by have q1 := (own_lt9 own_3 _ e.symm).1; have q2 := y0.lt; omega)
            have sz_4 : W0.drew.heap.size ≤ W_4.heap.size := Nat.le_trans sz_3 hg_4.size
            rw [List.nil_append, ← flatA_app, Nat.zero_add] at own_4
            obtain ⟨g9, c9, e9, hc9⟩ := own_formg own_4 (by omega)
            subst e9
            refine hK.out _ _ (s1_of x_4 y_4) (fun hHeld2 => ?_)
            clear hK K hHeld; have hHeld := hHeld2; clear hHeld2
            try simp only [Act.put, List.setIfInBounds_toArray, List.set_cons_zero, List.set_cons_succ]
            refine wpAnyH_ready (rs := [7]) (by kernel_rfl) (by simp) ?_
            refine AllReadyH.cons (o := { dst := some 94, op := Op.call { callee := Callee.value (Operand.func 21), args := #[Operand.tmp 92, Operand.tmp 93], argTypes := #[35, 23] }, type := 37, pos := "top22.go:84", after := #[{ on := 5, ground := Ground.data }, { on := 6, ground := Ground.data }, { on := 5, ground := Ground.chain }], guard := none }) rfl (fun K hK => ?_) (AllReadyH.nil)
            go_simp
            refine (hzm _ _ _ (ars_app rfl own_4 hL hA0 iv_4)).mono ?_; rintro e w_5 ⟨rfl, hb_5⟩
            have iv_5 := iv_4.call hb_5; have x_5 := x_4.below hb_5 x_4.lt; have y_5 := y_4.below hb_5 y_4.lt
            try go_wp2_with fail
            refine hK.out _ _ (s1_of x_5 y_5) (fun hHeld2 => ?_)
            clear hK K hHeld; have hHeld := hHeld2; clear hHeld2
            try simp only [Act.put, List.setIfInBounds_toArray, List.set_cons_zero, List.set_cons_succ]
            refine wpAnyH_take (i := 8) (oi := { dst := some 86, op := Op.move (Operand.tmp 94), type := 37, pos := "top22.go:84", after := #[{ on := 7, ground := Ground.data }], guard := none }) (v := ?_) rfl (by kernel_rfl) (by kernel_rfl) (by kernel_rfl) (fun _ _ _ h => h) (Or.inl ⟨by rfl, ?_⟩) hHeld ?_
            rotate_left
            · intro w hSw
              try dsimp only at hSw
              go_simp
              try with_reducible rfl
            try simp only [Act.put, List.setIfInBounds_toArray, List.set_cons_zero, List.set_cons_succ]
            refine wpAnyH_take (i := 9) (oi := { dst := some 95, op := Op.extract (Operand.tmp 86) 0, type := 9, pos := "top22.go:84", after := #[{ on := 8, ground := Ground.data }], guard := none }) (v := ?_) rfl (by kernel_rfl) (by kernel_rfl) (by kernel_rfl) (fun _ _ _ h => h) (Or.inl ⟨by rfl, ?_⟩) hHeld ?_
            rotate_left
            · intro w hSw
              try dsimp only at hSw
              go_simp
              try with_reducible rfl
            try simp only [Act.put, List.setIfInBounds_toArray, List.set_cons_zero, List.set_cons_succ]
            refine wpAnyH_take (i := 10) (oi := { dst := some 96, op := Op.extract (Operand.tmp 86) 1, type := 25, pos := "top22.go:84", after := #[{ on := 8, ground := Ground.data }, { on := 11, ground := Ground.gcOnly Departure.lateStores }], guard := none }) (v := ?_) rfl (by kernel_rfl) (by kernel_rfl) (by kernel_rfl) (fun _ _ _ h => h) (Or.inl ⟨by rfl, ?_⟩) hHeld ?_
            rotate_left
            · intro w hSw
              try dsimp only at hSw
              go_simp
              try with_reducible rfl
            try simp only [Act.put, List.setIfInBounds_toArray, List.set_cons_zero, List.set_cons_succ]
            refine wpAnyH_take (i := 11) (oi := { dst := some 16, op := Op.assign (Operand.tmp 95), type := 9, pos := "top22.go:84", after := #[{ on := 9, ground := Ground.data }, { on := 7, ground := Ground.chain }, { on := 0, ground := Ground.phase }, { on := 1, ground := Ground.phase }, { on := 2, ground := Ground.phase }, { on := 3, ground := Ground.phase }, { on := 4, ground := Ground.phase }, { on := 5, ground := Ground.phase }, { on := 6, ground := Ground.phase }, { on := 7, ground := Ground.phase }, { on := 8, ground := Ground.phase }, { on := 9, ground := Ground.phase }, { on := 10, ground := Ground.textOnly Departure.lateStores }], guard := none }) (v := ?_) rfl (by kernel_rfl) (by kernel_rfl) (by kernel_rfl) (fun _ _ _ h => h) (Or.inl ⟨by rfl, ?_⟩) hHeld ?_
            rotate_left
            · intro w hSw
              try dsimp only at hSw
              go_simp
              try with_reducible rfl
            try simp only [Act.put, List.setIfInBounds_toArray, List.set_cons_zero, List.set_cons_succ]
            refine wpAnyH_take (i := 12) (oi := { dst := some 17, op := Op.assign (Operand.tmp 96), type := 25, pos := "top22.go:84", after := #[{ on := 10, ground := Ground.data }, { on := 11, ground := Ground.chain }, { on := 0, ground := Ground.phase }, { on := 1, ground := Ground.phase }, { on := 2, ground := Ground.phase }, { on := 3, ground := Ground.phase }, { on := 4, ground := Ground.phase }, { on := 5, ground := Ground.phase }, { on := 6, ground := Ground.phase }, { on := 7, ground := Ground.phase }, { on := 8, ground := Ground.phase }, { on := 9, ground := Ground.phase }, { on := 10, ground := Ground.phase }, { on := 11, ground := Ground.phase }], guard := none }) (v := ?_) rfl (by kernel_rfl) (by kernel_rfl) (by kernel_rfl) (fun _ _ _ h => h) (Or.inl ⟨by rfl, ?_⟩) hHeld ?_
            rotate_left
            · intro w hSw
              try dsimp only at hSw
              go_simp
              try with_reducible rfl
            try simp only [Act.put, List.setIfInBounds_toArray, List.set_cons_zero, List.set_cons_succ]
            refine wpAnyH_done (by kernel_rfl) ?_ _
            clear hHeld
            go_wp2_with (first | refine wpList_row_g rfl 34 _ rfl _ rfl _ _ _ _ x_5 Try.underlying34 rfl (by kernel_rfl) ?_ | refine wpList_row_g rfl 23 _ rfl _ rfl _ _ _ _ y_5 Try.underlying23 rfl (by kernel_rfl) ?_)
            refine (hin _ iv_5).mono ?_; rintro e w8 ⟨rfl, hb8⟩
            have i8 := iv_5.call hb8
            have d8 : w8.cell? ⟨w.heap.size + 1, 0, none⟩ = some (.string z) := (x_5.below hb8 x_5.lt).cell 0
            go_wp2_with fail
            go_ret
            exact ⟨rfl, i8⟩
          · skip
            go_simp
            have q_6 := blk_at ((W0.drew).alloc (.cells (#[] : Array Value) 34)) 34 (arA z A n c) (sz1 W0.drew _ rfl)
            have own_6 := own_1.alloc (.cells (arA z A n c) 34)
            have iv_6 := iv_1.alloc (.cells (arA z A n c) 34)
            have x_6 := x_1.alloc (.cells (arA z A n c) 34)
            have y_6 := y_1.alloc (.cells (arA z A n c) 34)
            have sz_6 : W0.drew.heap.size ≤ (((W0.drew).alloc (.cells (#[] : Array Value) 34)).alloc (.cells (arA z A n c) 34)).heap.size := by rw [sz1 _ _ rfl]; exact Nat.le_succ_of_le sz_1
            refine hK.out _ _ (s1_of x_6 y_6) (fun hHeld2 => ?_)
            clear hK K hHeld; have hHeld := hHeld2; clear hHeld2
            try simp only [Act.put, List.setIfInBounds_toArray, List.set_cons_zero, List.set_cons_succ]
            refine wpAnyH_ready (rs := [2]) (by kernel_rfl) (by simp) ?_
            refine AllReadyH.cons (o := { dst := some 89, op := Op.call { callee := Callee.builtin Builtin.append, args := #[Operand.tmp 87, Operand.tmp 88], argTypes := #[35, 35] }, type := 35, pos := "top22.go:84", after := #[{ on := 0, ground := Ground.data }, { on := 1, ground := Ground.data }], guard := none }) rfl (fun K hK => ?_) (AllReadyH.nil)
            refine wp_append_any _ (.tmp 87) (.tmp 88) 35 rfl W0.drew.heap.size 34 i0i _ 2 40 Try.underlying35 HI.out hz0 hz1 hz2 rfl (by decide) _ 0 _ rfl own_6 _ _ nL cL (flatA L) rfl (hL.below iv_6.b).r (flatA_one L) (by unfold maxLen; omega) (by omega) sz_6 ?_
            intro v_7 W_7 own_7 hg_7 hat_7
            have iv_7 : BI w W_7 := Below.grown iv_6.b hg_7 iv_6.b.size (fun g hg => Nat.le_trans iv0.b.size (own_lt9 own_6 g hg).1)
            have x_7 := x_6.grown hg_7 (fun e => by have q1 := (own_lt9 own_6 _ e.symm).1; have q2 := x0.lt; omega)
            have y_7 := y_6.grown hg_7 (fun e => by have q1 := (own_lt9 own_6 _ e.symm).1; have q2 := y0.lt; omega)
            have q_7 := q_6.grown hg_7 (fun e => by first | (have e2 : some (W0.drew.heap.size + 1) = some W0.drew.heap.size := e; injection e2; omega) | (have e2 : some W0.drew.heap.size = some (W0.drew.heap.size + 1) := e; injection e2; omega))
            have sz_7 : W0.drew.heap.size ≤ W_7.heap.size := Nat.le_trans sz_6 hg_7.size
            refine hK.out _ _ (s1_of x_7 y_7) (fun hHeld2 => ?_)
            clear hK K hHeld; have hHeld := hHeld2; clear hHeld2
            try simp only [Act.put, List.setIfInBounds_toArray, List.set_cons_zero, List.set_cons_succ]
            refine wpAnyH_ready (rs := [5]) (by kernel_rfl) (by simp) ?_
            refine AllReadyH.cons (o := { dst := some 92, op := Op.call { callee := Callee.builtin Builtin.append, args := #[Operand.tmp 89, Operand.tmp 91], argTypes := #[35, 35] }, type := 35, pos := "top22.go:84", after := #[{ on := 2, ground := Ground.data }, { on := 4, ground := Ground.data }, { on := 2, ground := Ground.chain }], guard := none }) rfl (fun K hK => ?_) (AllReadyH.nil)
            refine wp_append_any _ (.tmp 89) (.tmp 91) 35 rfl W0.drew.heap.size 34 i0i _ 2 40 Try.underlying35 HI.out hz0 hz1 hz2 rfl (by decide) _ (0 + nL) _ rfl own_7 _ _ 1 1 (flatA [⟨z, A, n, c, l⟩]) rfl (one_reads q_7) (flatA_one _) (by unfold maxLen; omega) (by omega) sz_7 ?_
            intro v_8 W_8 own_8 hg_8 hat_8
            have iv_8 : BI w W_8 := Below.grown iv_7.b hg_8 iv_7.b.size (fun g hg => Nat.le_trans iv0.b.size (own_lt9 own_7 g hg).1)
            have x_8 := x_7.grown hg_8 (fun e => by have q1 := (own_lt9 own_7 _ e.symm).1; have q2 := x0.lt; omega)
            have y_8 := y_7.grown hg_8 (fun e => by have q1 := (own_lt9 own_7 _ e.symm).1; have q2 := y0.lt; omega)
            have sz_8 : W0.drew.heap.size ≤ W_8.heap.size := Nat.le_trans sz_7 hg_8.size
            rw [List.nil_append, ← flatA_app, Nat.zero_add] at own_8
            obtain ⟨g9, c9, e9, hc9⟩ := own_formg own_8 (by omega)
            subst e9
            refine hK.out _ _ (s1_of x_8 y_8) (fun hHeld2 => ?_)
            clear hK K hHeld; have hHeld := hHeld2; clear hHeld2
            try simp only [Act.put, List.setIfInBounds_toArray, List.set_cons_zero, List.set_cons_succ]
            refine wpAnyH_ready (rs := [7]) (by kernel_rfl) (by simp) ?_
            refine AllReadyH.cons (o := { dst := some 94, op := Op.call { callee := Callee.value (Operand.func 21), args := #[Operand.tmp 92, Operand.tmp 93], argTypes := #[35, 23] }, type := 37, pos := "top22.go:84", after := #[{ on := 5, ground := Ground.data }, { on := 6, ground := Ground.data }, { on := 5, ground := Ground.chain }], guard := none }) rfl (fun K hK => ?_) (AllReadyH.nil)
            go_simp
            refine (hzm _ _ _ (ars_app rfl own_8 hL hA0 iv_8)).mono ?_; rintro e w_9 ⟨rfl, hb_9⟩
            have iv_9 := iv_8.call hb_9; have x_9 := x_8.below hb_9 x_8.lt; have y_9 := y_8.below hb_9 y_8.lt
            try go_wp2_with fail
            refine hK.out _ _ (s1_of x_9 y_9) (fun hHeld2 => ?_)
            clear hK K hHeld; have hHeld := hHeld2; clear hHeld2
            try simp only [Act.put, List.setIfInBounds_toArray, List.set_cons_zero, List.set_cons_succ]
            refine wpAnyH_take (i := 8) (oi := { dst := some 86, op := Op.move (Operand.tmp 94), type := 37, pos := "top22.go:84", after := #[{ on := 7, ground := Ground.data }], guard := none }) (v := ?_) rfl (by kernel_rfl) (by kernel_rfl) (by kernel_rfl) (fun _ _ _ h => h) (Or.inl ⟨by rfl, ?_⟩) hHeld ?_
            rotate_left
            · intro w hSw
              try dsimp only at hSw
              go_simp
              try with_reducible rfl
            try simp only [Act.put, List.setIfInBounds_toArray, List.set_cons_zero, List.set_cons_succ]
            refine wpAnyH_take (i := 9) (oi := { dst := some 95, op := Op.extract (Operand.tmp 86) 0, type := 9, pos := "top22.go:84", after := #[{ on := 8, ground := Ground.data }], guard := none }) (v := ?_) rfl (by kernel_rfl) (by kernel_rfl) (by kernel_rfl) (fun _ _ _ h => h) (Or.inl ⟨by rfl, ?_⟩) hHeld ?_
            rotate_left
            · intro w hSw
              try dsimp only at hSw
              go_simp
              try with_reducible rfl
            try simp only [Act.put, List.setIfInBounds_toArray, List.set_cons_zero, List.set_cons_succ]
            refine wpAnyH_take (i := 10) (oi := { dst := some 96, op := Op.extract (Operand.tmp 86) 1, type := 25, pos := "top22.go:84", after := #[{ on := 8, ground := Ground.data }, { on := 11, ground := Ground.gcOnly Departure.lateStores }], guard := none }) (v := ?_) rfl (by kernel_rfl) (by kernel_rfl) (by kernel_rfl) (fun _ _ _ h => h) (Or.inl ⟨by rfl, ?_⟩) hHeld ?_
            rotate_left
            · intro w hSw
              try dsimp only at hSw
              go_simp
              try with_reducible rfl
            try simp only [Act.put, List.setIfInBounds_toArray, List.set_cons_zero, List.set_cons_succ]
            refine wpAnyH_take (i := 11) (oi := { dst := some 16, op := Op.assign (Operand.tmp 95), type := 9, pos := "top22.go:84", after := #[{ on := 9, ground := Ground.data }, { on := 7, ground := Ground.chain }, { on := 0, ground := Ground.phase }, { on := 1, ground := Ground.phase }, { on := 2, ground := Ground.phase }, { on := 3, ground := Ground.phase }, { on := 4, ground := Ground.phase }, { on := 5, ground := Ground.phase }, { on := 6, ground := Ground.phase }, { on := 7, ground := Ground.phase }, { on := 8, ground := Ground.phase }, { on := 9, ground := Ground.phase }, { on := 10, ground := Ground.textOnly Departure.lateStores }], guard := none }) (v := ?_) rfl (by kernel_rfl) (by kernel_rfl) (by kernel_rfl) (fun _ _ _ h => h) (Or.inl ⟨by rfl, ?_⟩) hHeld ?_
            rotate_left
            · intro w hSw
              try dsimp only at hSw
              go_simp
              try with_reducible rfl
            try simp only [Act.put, List.setIfInBounds_toArray, List.set_cons_zero, List.set_cons_succ]
            refine wpAnyH_take (i := 12) (oi := { dst := some 17, op := Op.assign (Operand.tmp 96), type := 25, pos := "top22.go:84", after := #[{ on := 10, ground := Ground.data }, { on := 11, ground := Ground.chain }, { on := 0, ground := Ground.phase }, { on := 1, ground := Ground.phase }, { on := 2, ground := Ground.phase }, { on := 3, ground := Ground.phase }, { on := 4, ground := Ground.phase }, { on := 5, ground := Ground.phase }, { on := 6, ground := Ground.phase }, { on := 7, ground := Ground.phase }, { on := 8, ground := Ground.phase }, { on := 9, ground := Ground.phase }, { on := 10, ground := Ground.phase }, { on := 11, ground := Ground.phase }], guard := none }) (v := ?_) rfl (by kernel_rfl) (by kernel_rfl) (by kernel_rfl) (fun _ _ _ h => h) (Or.inl ⟨by rfl, ?_⟩) hHeld ?_
            rotate_left
            · intro w hSw
              try dsimp only at hSw
              go_simp
              try with_reducible rfl
            try simp only [Act.put, List.setIfInBounds_toArray, List.set_cons_zero, List.set_cons_succ]
            refine wpAnyH_done (by kernel_rfl) ?_ _
            clear hHeld
            go_wp2_with (first | refine wpList_row_g rfl 34 _ rfl _ rfl _ _ _ _ x_9 Try.underlying34 rfl (by kernel_rfl) ?_ | refine wpList_row_g rfl 23 _ rfl _ rfl _ _ _ _ y_9 Try.underlying23 rfl (by kernel_rfl) ?_)
            refine (hin _ iv_9).mono ?_; rintro e w8 ⟨rfl, hb8⟩
            have i8 := iv_9.call hb8
            have d8 : w8.cell? ⟨w.heap.size + 1, 0, none⟩ = some (.string z) := (x_9.below hb8 x_9.lt).cell 0
            go_wp2_with fail
            go_ret
            exact ⟨rfl, i8⟩
        · skip
          go_simp
          have q_10 := Blk.new (W0.drew) 34 (arA z A n c)
          have iv_10 := iv0.alloc (.cells (arA z A n c) 34)
          have x_10 := x0.alloc (.cells (arA z A n c) 34)
          have y_10 := y0.alloc (.cells (arA z A n c) 34)
          have sz_10 : W0.drew.heap.size ≤ ((W0.drew).alloc (.cells (arA z A n c) 34)).heap.size := by rw [sz1 _ _ rfl]; exact Nat.le_succ_of_le (Nat.le_refl W0.drew.heap.size)
          refine hK.out _ _ (s1_of x_10 y_10) (fun hHeld2 => ?_)
          clear hK K hHeld; have hHeld := hHeld2; clear hHeld2
          try simp only [Act.put, List.setIfInBounds_toArray, List.set_cons_zero, List.set_cons_succ]
          refine wpAnyH_ready (rs := [0]) (by kernel_rfl) (by simp) ?_
          refine AllReadyH.cons (o := { dst := some 87, op := Op.buildSlice 35 0 #[], type := 35, pos := "top22.go:84", after := #[], guard := none }) rfl (fun K hK => ?_) (AllReadyH.nil)
          go_simp
          have own_11 := own_xA (base := W0.drew.heap.size) ((W0.drew).alloc (.cells (arA z A n c) 34)) sz_10
          rw [sz1 W0.drew _ rfl] at own_11
          have q_11 := q_10.alloc (.cells (#[] : Array Value) 34)
          have iv_11 := iv_10.alloc (.cells (#[] : Array Value) 34)
          have x_11 := x_10.alloc (.cells (#[] : Array Value) 34)
          have y_11 := y_10.alloc (.cells (#[] : Array Value) 34)
          have sz_11 : W0.drew.heap.size ≤ (((W0.drew).alloc (.cells (arA z A n c) 34)).alloc (.cells (#[] : Array Value) 34)).heap.size := by rw [sz1 _ _ rfl]; exact Nat.le_succ_of_le sz_10
          refine hK.out _ _ (s1_of x_11 y_11) (fun hHeld2 => ?_)
          clear hK K hHeld; have hHeld := hHeld2; clear hHeld2
          try simp only [Act.put, List.setIfInBounds_toArray, List.set_cons_zero, List.set_cons_succ]
          refine wpAnyH_ready (rs := [2]) (by kernel_rfl) (by simp) ?_
          refine AllReadyH.cons (o := { dst := some 89, op := Op.call { callee := Callee.builtin Builtin.append, args := #[Operand.tmp 87, Operand.tmp 88], argTypes := #[35, 35] }, type := 35, pos := "top22.go:84", after := #[{ on := 0, ground := Ground.data }, { on := 1, ground := Ground.data }], guard := none }) rfl (fun K hK => ?_) (AllReadyH.nil)
          refine wp_append_any _ (.tmp 87) (.tmp 88) 35 rfl W0.drew.heap.size 34 i0i _ 2 40 Try.underlying35 HI.out hz0 hz1 hz2 rfl (by decide) _ 0 _ rfl own_11 _ _ nL cL (flatA L) rfl (hL.below iv_11.b).r (flatA_one L) (by unfold maxLen; omega) (by omega) sz_11 ?_
          intro v_12 W_12 own_12 hg_12 hat_12
          have iv_12 : BI w W_12 := Below.grown iv_11.b hg_12 iv_11.b.size (fun g hg => Nat.le_trans iv0.b.size (own_lt9 own_11 g hg).1)
          have x_12 := x_11.grown hg_12 (fun e => by have q1 := (own_lt9 own_11 _ e.symm).1; have q2 := x0.lt; omega)
          have y_12 := y_11.grown hg_12 (fun e => by have q1 := (own_lt9 own_11 _ e.symm).1; have q2 := y0.lt; omega)
          have q_12 := q_11.grown hg_12 (fun e => by first | (have e2 : some (W0.drew.heap.size + 1) = some W0.drew.heap.size := e; injection e2; omega) | (have e2 : some W0.drew.heap.size = some (W0.drew.heap.size + 1) := e; injection e2; omega))
          have sz_12 : W0.drew.heap.size ≤ W_12.heap.size := Nat.le_trans sz_11 hg_12.size
          refine hK.out _ _ (s1_of x_12 y_12) (fun hHeld2 => ?_)
          clear hK K hHeld; have hHeld := hHeld2; clear hHeld2
          try simp only [Act.put, List.setIfInBounds_toArray, List.set_cons_zero, List.set_cons_succ]
          refine wpAnyH_ready (rs := [5]) (by kernel_rfl) (by simp) ?_
          refine AllReadyH.cons (o := { dst := some 92, op := Op.call { callee := Callee.builtin Builtin.append, args := #[Operand.tmp 89, Operand.tmp 91], argTypes := #[35, 35] }, type := 35, pos := "top22.go:84", after := #[{ on := 2, ground := Ground.data }, { on := 4, ground := Ground.data }, { on := 2, ground := Ground.chain }], guard := none }) rfl (fun K hK => ?_) (AllReadyH.nil)
          refine wp_append_any _ (.tmp 89) (.tmp 91) 35 rfl W0.drew.heap.size 34 i0i _ 2 40 Try.underlying35 HI.out hz0 hz1 hz2 rfl (by decide) _ (0 + nL) _ rfl own_12 _ _ 1 1 (flatA [⟨z, A, n, c, l⟩]) rfl (one_reads q_12) (flatA_one _) (by unfold maxLen; omega) (by omega) sz_12 ?_
          intro v_13 W_13 own_13 hg_13 hat_13
          have iv_13 : BI w W_13 := Below.grown iv_12.b hg_13 iv_12.b.size (fun g hg => Nat.le_trans iv0.b.size (own_lt9 own_12 g hg).1)
          have x_13 := x_12.grown hg_13 (fun e => by have q1 := (own_lt9 own_12 _ e.symm).1; have q2 := x0.lt; omega)
          have y_13 := y_12.grown hg_13 (fun e => by have q1 := (own_lt9 own_12 _ e.symm).1; have q2 := y0.lt; omega)
          have sz_13 : W0.drew.heap.size ≤ W_13.heap.size := Nat.le_trans sz_12 hg_13.size
          rw [List.nil_append, ← flatA_app, Nat.zero_add] at own_13
          obtain ⟨g9, c9, e9, hc9⟩ := own_formg own_13 (by omega)
          subst e9
          refine hK.out _ _ (s1_of x_13 y_13) (fun hHeld2 => ?_)
          clear hK K hHeld; have hHeld := hHeld2; clear hHeld2
          try simp only [Act.put, List.setIfInBounds_toArray, List.set_cons_zero, List.set_cons_succ]
          refine wpAnyH_ready (rs := [7]) (by kernel_rfl) (by simp) ?_
          refine AllReadyH.cons (o := { dst := some 94, op := Op.call { callee := Callee.value (Operand.func 21), args := #[Operand.tmp 92, Operand.tmp 93], argTypes := #[35, 23] }, type := 37, pos := "top22.go:84", after := #[{ on := 5, ground := Ground.data }, { on := 6, ground := Ground.data }, { on := 5, ground := Ground.chain }], guard := none }) rfl (fun K hK => ?_) (AllReadyH.nil)
          go_simp
          refine (hzm _ _ _ (ars_app rfl own_13 hL hA0 iv_13)).mono ?_; rintro e w_14 ⟨rfl, hb_14⟩
          have iv_14 := iv_13.call hb_14; have x_14 := x_13.below hb_14 x_13.lt; have y_14 := y_13.below hb_14 y_13.lt
          try go_wp2_with fail
          refine hK.out _ _ (s1_of x_14 y_14) (fun hHeld2 => ?_)
          clear hK K hHeld; have hHeld := hHeld2; clear hHeld2
          try simp only [Act.put, List.setIfInBounds_toArray, List.set_cons_zero, List.set_cons_succ]
          refine wpAnyH_take (i := 8) (oi := { dst := some 86, op := Op.move (Operand.tmp 94), type := 37, pos := "top22.go:84", after := #[{ on := 7, ground := Ground.data }], guard := none }) (v := ?_) rfl (by kernel_rfl) (by kernel_rfl) (by kernel_rfl) (fun _ _ _ h => h) (Or.inl ⟨by rfl, ?_⟩) hHeld ?_
          rotate_left
          · intro w hSw
            try dsimp only at hSw
            go_simp
            try with_reducible rfl
          try simp only [Act.put, List.setIfInBounds_toArray, List.set_cons_zero, List.set_cons_succ]
          refine wpAnyH_take (i := 9) (oi := { dst := some 95, op := Op.extract (Operand.tmp 86) 0, type := 9, pos := "top22.go:84", after := #[{ on := 8, ground := Ground.data }], guard := none }) (v := ?_) rfl (by kernel_rfl) (by kernel_rfl) (by kernel_rfl) (fun _ _ _ h => h) (Or.inl ⟨by rfl, ?_⟩) hHeld ?_
          rotate_left
          · intro w hSw
            try dsimp only at hSw
            go_simp
            try with_reducible rfl
          try simp only [Act.put, List.setIfInBounds_toArray, List.set_cons_zero, List.set_cons_succ]
          refine wpAnyH_take (i := 10) (oi := { dst := some 96, op := Op.extract (Operand.tmp 86) 1, type := 25, pos := "top22.go:84", after := #[{ on := 8, ground := Ground.data }, { on := 11, ground := Ground.gcOnly Departure.lateStores }], guard := none }) (v := ?_) rfl (by kernel_rfl) (by kernel_rfl) (by kernel_rfl) (fun _ _ _ h => h) (Or.inl ⟨by rfl, ?_⟩) hHeld ?_
          rotate_left
          · intro w hSw
            try dsimp only at hSw
            go_simp
            try with_reducible rfl
          try simp only [Act.put, List.setIfInBounds_toArray, List.set_cons_zero, List.set_cons_succ]
          refine wpAnyH_take (i := 11) (oi := { dst := some 16, op := Op.assign (Operand.tmp 95), type := 9, pos := "top22.go:84", after := #[{ on := 9, ground := Ground.data }, { on := 7, ground := Ground.chain }, { on := 0, ground := Ground.phase }, { on := 1, ground := Ground.phase }, { on := 2, ground := Ground.phase }, { on := 3, ground := Ground.phase }, { on := 4, ground := Ground.phase }, { on := 5, ground := Ground.phase }, { on := 6, ground := Ground.phase }, { on := 7, ground := Ground.phase }, { on := 8, ground := Ground.phase }, { on := 9, ground := Ground.phase }, { on := 10, ground := Ground.textOnly Departure.lateStores }], guard := none }) (v := ?_) rfl (by kernel_rfl) (by kernel_rfl) (by kernel_rfl) (fun _ _ _ h => h) (Or.inl ⟨by rfl, ?_⟩) hHeld ?_
          rotate_left
          · intro w hSw
            try dsimp only at hSw
            go_simp
            try with_reducible rfl
          try simp only [Act.put, List.setIfInBounds_toArray, List.set_cons_zero, List.set_cons_succ]
          refine wpAnyH_take (i := 12) (oi := { dst := some 17, op := Op.assign (Operand.tmp 96), type := 25, pos := "top22.go:84", after := #[{ on := 10, ground := Ground.data }, { on := 11, ground := Ground.chain }, { on := 0, ground := Ground.phase }, { on := 1, ground := Ground.phase }, { on := 2, ground := Ground.phase }, { on := 3, ground := Ground.phase }, { on := 4, ground := Ground.phase }, { on := 5, ground := Ground.phase }, { on := 6, ground := Ground.phase }, { on := 7, ground := Ground.phase }, { on := 8, ground := Ground.phase }, { on := 9, ground := Ground.phase }, { on := 10, ground := Ground.phase }, { on := 11, ground := Ground.phase }], guard := none }) (v := ?_) rfl (by kernel_rfl) (by kernel_rfl) (by kernel_rfl) (fun _ _ _ h => h) (Or.inl ⟨by rfl, ?_⟩) hHeld ?_
          rotate_left
          · intro w hSw
            try dsimp only at hSw
            go_simp
            try with_reducible rfl
          try simp only [Act.put, List.setIfInBounds_toArray, List.set_cons_zero, List.set_cons_succ]
          refine wpAnyH_done (by kernel_rfl) ?_ _
          clear hHeld
          go_wp2_with (first | refine wpList_row_g rfl 34 _ rfl _ rfl _ _ _ _ x_14 Try.underlying34 rfl (by kernel_rfl) ?_ | refine wpList_row_g rfl 23 _ rfl _ rfl _ _ _ _ y_14 Try.underlying23 rfl (by kernel_rfl) ?_)
          refine (hin _ iv_14).mono ?_; rintro e w8 ⟨rfl, hb8⟩
          have i8 := iv_14.call hb8
          have d8 : w8.cell? ⟨w.heap.size + 1, 0, none⟩ = some (.string z) := (x_14.below hb8 x_14.lt).cell 0
          go_wp2_with fail
          go_ret
          exact ⟨rfl, i8⟩
theorem held_any (AL : Option Addr) (nL cL : Nat) (L : List Ae) (p : P2) (z : ByteArray) (A : Option Addr) (n c : Nat) (l : List P2) (w : World) (hz : z.size ≤ maxLen) (hR : Pts w w.heap.size A n l) (hm : n ≤ maxLen) (hL : Ars w w.heap.size AL nL L) (hby : nL * 40 ≤ 140737488351232) :
    Calls Try.prog 11 #[.slice AL nL cL, p.V, arV z A n c] w fun e w' => e = .returned (.bool true) ∧ Below w.heap.size w w' := by
  cases hs : smV (L ++ [⟨z, A, n, c, l⟩])
  · exact held_small AL nL cL L p z A n c l w hz hR hm hL hby hs
  · exact held_main AL nL cL L p z A n c l w hz hR hm hL hby hs
end Go.Proofs.Ytoiccljmdplfgaa.Ar
