/-
  NearNone: a list of places with one more; walked where they are too many.
-/
import Derived.Test.YtoiccljmdplfgaaTow
import Derived.Test.YtoiccljmdplfgaaNn1
namespace Go.Proofs.Ytoiccljmdplfgaa.Nr
open Go.Proofs.Ytoiccljmdplfgaa.Ld
theorem ldPl_sem (v : Value) : Instr.loadAt 67 v = ldSem 67 v := rfl
end Go.Proofs.Ytoiccljmdplfgaa.Nr
namespace Go.Proofs.Ytoiccljmdplfgaa.Nr
open Go.ChangeShapes Go.WideShapes Go.ChangeAt Go.RowKit Go.Shelf
open Go.Proofs.Ytoiccljmdplfgaa
open Go.Proofs.Ytoiccljmdplfgaa.Wd
open Go.Proofs.Ytoiccljmdplfgaa.Pl
open Go.Proofs.Ytoiccljmdplfgaa.Nv
open Go.Proofs.Ytoiccljmdplfgaa.Ar
open Go.Proofs.Ytoiccljmdplfgaa.Ld
open Go.Proofs.Ytoiccljmdplfgaa.So (ordF ordF_pm ordF_sd sort_any Pm Sd Lt)
open Go.Proofs.Ytoiccljmdplfgaa.Sr (SoR Hd key net key_inj)
open Go.Proofs.Ytoiccljmdplfgaa.Lk (lead zone_any)
set_option linter.unusedVariables false
set_option linter.unusedSimpArgs false
attribute [local go_sem ↓] Go.wp_at_zero Go.wp_at_succ
attribute [local go_sem ↓] ldP_sem ldS_sem ldPl_sem
attribute [local go_sem] ldSem_run
theorem pl_info : (Try.prog.info? 67).map (fun i => (i.zero, i.size, i.bytes)) = some (some (.agg ZP), 4, 48) := by kernel_rfl
theorem flatC_app (l m : List Pc) : flatC (l ++ m) = flatC l ++ flatC m := by
  induction l with
  | nil => rfl
  | cons r t ih => show r.C.toList ++ flatC (t ++ m) = (r.C.toList ++ flatC t) ++ flatC m; rw [ih, List.append_assoc]
theorem flatC_one (l : List Pc) : ∀ u ∈ flatC l, u.oneCell' = true := by
  induction l with
  | nil => intro u hu; cases hu
  | cons r t ih =>
    intro u hu
    rcases List.mem_append.1 (show u ∈ r.C.toList ++ flatC t from hu) with h | h
    · simp at h; rcases h with rfl | rfl | rfl | rfl <;> rfl
    · exact ih u h
theorem own_xP (w : World) {base : Nat} (hb : base ≤ w.heap.size) : (w.alloc (.cells (#[] : Array Value) 67)).ownsRow base 67 4 (.slice (some ⟨w.heap.size, 0, none⟩) 0 0) 0 [] :=
  World.ownsRow_lit (base := base) (e := 67) (size := 4) w (#[] : Array Value) 0 hb (by unfold maxLen; omega) rfl
theorem own_formP {w : World} {base size n : Nat} {e : TypeId} {v : Value} {xs : List Value} (h : w.ownsRow base e size v n xs) (hn : 0 < n) : ∃ g c, v = .slice (some ⟨g, 0, none⟩) n c ∧ n ≤ c := by
  rcases h.2 with ⟨_, h1⟩ | ⟨g, cap, cur, hv, h2, h3, h4, h5⟩
  · omega
  · exact ⟨g, cap, hv, h4⟩
theorem one_readsC {w : World} {g : Nat} {t : TypeId} {m : Pc} (x : Blk w g t m.C) : Reads w w.heap.size 4 (some ⟨g, 0, none⟩) 1 (flatC [m]) := by
  refine ⟨rfl, fun _ => ⟨_, rfl, x.lt, fun j u hu => ?_⟩⟩
  have e : (⟨g, 0, none⟩ : Addr).add j = ⟨g, j, none⟩ := by unfold Addr.add; split <;> simp_all
  rw [e, x.cell, ← Array.getElem?_toList]; exact hu
theorem pcs_app {w W : World} {base N n c9 g9 : Nat} {A : Option Addr} {L : List Pc} {a : Pc} (hN : n + 1 = N) (own : W.ownsRow base 67 4 (.slice (some ⟨g9, 0, none⟩) N c9) N (flatC (L ++ [a]))) (hL : Pcs w w.heap.size A n L)
    (ha : a.t.size ≤ maxLen ∧ a.z.size ≤ maxLen) (iv : BI w W) : Pcs W W.heap.size (some ⟨g9, 0, none⟩) N (L ++ [a]) := by
  refine ⟨by rw [List.length_append, hL.len, ← hN]; rfl, Reads.of_own own, fun b hb => ?_⟩
  rcases List.mem_append.1 hb with h | h
  · exact hL.p b h
  · obtain rfl := List.mem_singleton.1 h
    exact ha
theorem sp_of {w W : World} {gp gm : Nat} {h : Hd} {p : P2} {m : Pc} (hx : Blk W w.heap.size 65 h.C) (hy : Blk W gp 23 p.A) (hz : Blk W gm 67 m.C) :
    Blk W w.heap.size 65 h.C ∧ ldT 65 (.pointer (some ⟨w.heap.size, 0, none⟩)) W = some h.C ∧ Blk W gp 23 p.A ∧ ldT 23 (.pointer (some ⟨gp, 0, none⟩)) W = some p.A ∧ Blk W gm 67 m.C ∧ ldT 67 (.pointer (some ⟨gm, 0, none⟩)) W = some m.C := ⟨hx, ldT_of (ld_seg hx Try.underlying65 rfl (by kernel_rfl) (by kernel_rfl)), hy, ldT_of (ld_seg hy Try.underlying23 rfl (by kernel_rfl) (by kernel_rfl)), hz, ldT_of (ld_seg hz Try.underlying67 rfl (by kernel_rfl) (by kernel_rfl))⟩
set_option maxRecDepth 100000 in
set_option maxHeartbeats 12800000 in
theorem none_many (A : Option Addr) (n c : Nat) (L : List Pc) (h : Hd) (S : Sr.So) (p : P2) (m : Pc) (d : Int) (w : World) (hR : Pcs w w.heap.size A n L) (hby : n * 48 ≤ 140737488351232) (hS : SoR w w.heap.size h S) (hmb : m.t.size ≤ maxLen ∧ m.z.size ≤ maxLen) (hs : fwB (L ++ [m]) = false) :
    Calls Try.prog 10 #[.slice A n c, h.V, p.V, m.V, .int .i64 d] w fun e w' => e = .returned (.bool true) ∧ Below w.heap.size w w' := by
  have hll := hR.len
  have hnm : n + 1 ≤ 2932031007404 := by omega
  have i1 := (((BI.start w).alloc (.cells h.C 65)).alloc (.cells p.A 23)).alloc (.cells m.C 67)
  have x1 := ((Blk.new w 65 h.C).alloc (.cells p.A 23)).alloc (.cells m.C 67)
  have y1 := (blk_at (w.alloc (.cells h.C 65)) 23 p.A (sz1 _ _ rfl)).alloc (.cells m.C 67)
  have z1 := blk_at ((w.alloc (.cells h.C 65)).alloc (.cells p.A 23)) 67 m.C (sz1 _ _ (sz1 _ _ rfl))
  have hsm := fun (W : World) (A9 : Option Addr) (c9 : Nat) (k : Pcs W W.heap.size A9 (n + 1) (L ++ [m])) => small42_det A9 (n + 1) c9 (L ++ [m]) W k (by unfold maxLen; omega)
  rw [hs] at hsm
  simp only [Bool.false_eq_true, if_false] at hsm
  obtain ⟨i0i, hi0', hz0, hz1, hz2⟩ := info_parts pl_info
  have HI := Lib.hid hi0'
  clear hi0' hs
  go_enter Try.func10, Try.ntmps10
  go_upto_region 1 with fail
  generalize ((w.alloc (.cells h.C 65)).alloc (.cells p.A 23)).alloc (.cells m.C 67) = W9 at *
  have hgp : w.heap.size ≤ w.heap.size + 1 := Nat.le_succ _
  have hgm : w.heap.size ≤ w.heap.size + 1 + 1 := by omega
  generalize w.heap.size + 1 + 1 = gm at *
  generalize w.heap.size + 1 = gp at *
  go_wp2_with fail
  refine (lives43_any _).mono ?_; rintro e w2 ⟨rfl, hb2⟩
  have i2 := i1.call hb2; have x2 := x1.below hb2 x1.lt; have y2 := y1.below hb2 y1.lt; have z2 := z1.below hb2 z1.lt
  clear i1 x1 y1 z1 hb2
  go_upto_region 3 with fail
  obtain ⟨W0, rfl⟩ : ∃ W0 : World, W0 = w2 := ⟨_, rfl⟩
  have x0 : Blk W0.drew w.heap.size 65 h.C := x2
  have y0 : Blk W0.drew gp 23 p.A := y2
  have z0 : Blk W0.drew gm 67 m.C := z2
  have iv0 : BI w W0.drew := i2.drew
  clear x2 y2 z2 i2
  refine wp_region_held_drew (S := fun w' => Blk w' w.heap.size 65 h.C ∧ ldT 65 (.pointer (some ⟨w.heap.size, 0, none⟩)) w' = some h.C ∧ Blk w' gp 23 p.A ∧ ldT 23 (.pointer (some ⟨gp, 0, none⟩)) w' = some p.A ∧ Blk w' gm 67 m.C ∧ ldT 67 (.pointer (some ⟨gm, 0, none⟩)) w' = some m.C) (by kernel_rfl) (sp_of x0 y0 z0) (fun hHeld => ?_)
  refine wpAnyH_take (i := 1) (oi := { dst := some 33, op := Op.move (Operand.tmp 0), type := 51, pos := "law.go:53", after := #[], guard := none }) (v := ?_) rfl (by kernel_rfl) (by kernel_rfl) (by kernel_rfl) (fun _ _ _ h => h) (Or.inl ⟨by rfl, ?_⟩) hHeld ?_
  rotate_left
  · intro w hSw
    try dsimp only at hSw
    go_simp
    try with_reducible rfl
  try simp only [Act.put, List.setIfInBounds_toArray, List.set_cons_zero, List.set_cons_succ]
  refine wpAnyH_take (i := 3) (oi := { dst := some 35, op := Op.load 67 (Operand.tmp 8), type := 67, pos := "law.go:53", after := #[], guard := none }) (v := ?_) rfl (by kernel_rfl) (by kernel_rfl) (by kernel_rfl) (fun _ _ _ h => h) (Or.inl ⟨by rfl, ?_⟩) hHeld ?_
  rotate_left
  · intro w hSw
    try dsimp only at hSw
    go_simp
    try with_reducible rfl
  try simp only [Act.put, List.setIfInBounds_toArray, List.set_cons_zero, List.set_cons_succ]
  refine wpAnyH_ready (rs := [0, 4]) (by kernel_rfl) (by simp) ?_
  refine AllReadyH.cons (o := { dst := some 32, op := Op.buildSlice 51 0 #[], type := 51, pos := "law.go:53", after := #[], guard := none }) rfl (fun K hK => ?_) (AllReadyH.cons (o := { dst := some 36, op := Op.buildSlice 51 1 #[(0, Operand.tmp 35)], type := 51, pos := "law.go:53", after := #[{ on := 3, ground := Ground.data }], guard := none }) rfl (fun K hK => ?_) (AllReadyH.nil))
  · skip
    go_simp
    have own_1 := own_xP (base := W0.drew.heap.size) (W0.drew) (Nat.le_refl W0.drew.heap.size)
    have iv_1 := iv0.alloc (.cells (#[] : Array Value) 67)
    have x_1 := x0.alloc (.cells (#[] : Array Value) 67)
    have y_1 := y0.alloc (.cells (#[] : Array Value) 67)
    have z_1 := z0.alloc (.cells (#[] : Array Value) 67)
    have sz_1 : W0.drew.heap.size ≤ ((W0.drew).alloc (.cells (#[] : Array Value) 67)).heap.size := by rw [sz1 _ _ rfl]; exact Nat.le_succ_of_le (Nat.le_refl W0.drew.heap.size)
    refine hK.out _ _ (sp_of x_1 y_1 z_1) (fun hHeld2 => ?_)
    clear hK K hHeld; have hHeld := hHeld2; clear hHeld2
    try simp only [Act.put, List.setIfInBounds_toArray, List.set_cons_zero, List.set_cons_succ]
    refine wpAnyH_ready (rs := [2, 4]) (by kernel_rfl) (by simp) ?_
    refine AllReadyH.cons (o := { dst := some 34, op := Op.call { callee := Callee.builtin Builtin.append, args := #[Operand.tmp 32, Operand.tmp 33], argTypes := #[51, 51] }, type := 51, pos := "law.go:53", after := #[{ on := 0, ground := Ground.data }, { on := 1, ground := Ground.data }], guard := none }) rfl (fun K hK => ?_) (AllReadyH.cons (o := { dst := some 36, op := Op.buildSlice 51 1 #[(0, Operand.tmp 35)], type := 51, pos := "law.go:53", after := #[{ on := 3, ground := Ground.data }], guard := none }) rfl (fun K hK => ?_) (AllReadyH.nil))
    · skip
      refine wp_append_any _ (.tmp 32) (.tmp 33) 51 rfl W0.drew.heap.size 67 i0i _ 4 48 Try.underlying51 HI.out hz0 hz1 hz2 rfl (by decide) _ 0 _ rfl own_1 _ _ n c (flatC L) rfl (hR.below iv_1.b).r (flatC_one L) (by unfold maxLen; omega) (by omega) sz_1 ?_
      intro v_2 W_2 own_2 hg_2 hat_2
      have iv_2 : BI w W_2 := Below.grown iv_1.b hg_2 iv_1.b.size (fun g hg => Nat.le_trans iv0.b.size (own_1.lt g hg).1)
      have x_2 := x_1.grown hg_2 (fun e => by have q1 := (own_1.lt _ e.symm).1; have q2 := x0.lt; omega)
      have y_2 := y_1.grown hg_2 (fun e => by have q1 := (own_1.lt _ e.symm).1; have q2 := y0.lt; omega)
      have z_2 := z_1.grown hg_2 (fun e => by have q1 := (own_1.lt _ e.symm).1; have q2 := z0.lt; omega)
      have sz_2 : W0.drew.heap.size ≤ W_2.heap.size := Nat.le_trans sz_1 hg_2.size
      refine hK.out _ _ (sp_of x_2 y_2 z_2) (fun hHeld2 => ?_)
      clear hK K hHeld; have hHeld := hHeld2; clear hHeld2
      try simp only [Act.put, List.setIfInBounds_toArray, List.set_cons_zero, List.set_cons_succ]
      refine wpAnyH_ready (rs := [4]) (by kernel_rfl) (by simp) ?_
      refine AllReadyH.cons (o := { dst := some 36, op := Op.buildSlice 51 1 #[(0, Operand.tmp 35)], type := 51, pos := "law.go:53", after := #[{ on := 3, ground := Ground.data }], guard := none }) rfl (fun K hK => ?_) (AllReadyH.nil)
      go_simp
      have q_3 := Blk.new (W_2) 67 m.C
      have own_3 := own_2.alloc (.cells m.C 67)
      have iv_3 := iv_2.alloc (.cells m.C 67)
      have x_3 := x_2.alloc (.cells m.C 67)
      have y_3 := y_2.alloc (.cells m.C 67)
      have z_3 := z_2.alloc (.cells m.C 67)
      have sz_3 : W0.drew.heap.size ≤ ((W_2).alloc (.cells m.C 67)).heap.size := by rw [sz1 _ _ rfl]; exact Nat.le_succ_of_le sz_2
      refine hK.out _ _ (sp_of x_3 y_3 z_3) (fun hHeld2 => ?_)
      clear hK K hHeld; have hHeld := hHeld2; clear hHeld2
      try simp only [Act.put, List.setIfInBounds_toArray, List.set_cons_zero, List.set_cons_succ]
      refine wpAnyH_ready (rs := [5]) (by kernel_rfl) (by simp) ?_
      refine AllReadyH.cons (o := { dst := some 37, op := Op.call { callee := Callee.builtin Builtin.append, args := #[Operand.tmp 34, Operand.tmp 36], argTypes := #[51, 51] }, type := 51, pos := "law.go:53", after := #[{ on := 2, ground := Ground.data }, { on := 4, ground := Ground.data }, { on := 2, ground := Ground.chain }], guard := none }) rfl (fun K hK => ?_) (AllReadyH.nil)
      refine wp_append_any _ (.tmp 34) (.tmp 36) 51 rfl W0.drew.heap.size 67 i0i _ 4 48 Try.underlying51 HI.out hz0 hz1 hz2 rfl (by decide) _ (0 + n) _ rfl own_3 _ _ 1 1 (flatC [m]) rfl (one_readsC q_3) (flatC_one _) (by unfold maxLen; omega) (by omega) sz_3 ?_
      intro v_4 W_4 own_4 hg_4 hat_4
      have iv_4 : BI w W_4 := Below.grown iv_3.b hg_4 iv_3.b.size (fun g hg => Nat.le_trans iv0.b.size (own_3.lt g hg).1)
      have x_4 := x_3.grown hg_4 (fun e => by have q1 := (own_3.lt _ e.symm).1; have q2 := x0.lt; omega)
      have y_4 := y_3.grown hg_4 (fun e => by have q1 := (own_3.lt _ e.symm).1; have q2 := y0.lt; omega)
      have z_4 := z_3.grown hg_4 (fun e => by have q1 := (own_3.lt _ e.symm).1; have q2 := z0.lt; omega)
      have sz_4 : W0.drew.heap.size ≤ W_4.heap.size := Nat.le_trans sz_3 hg_4.size
      rw [List.nil_append, ← flatC_app, Nat.zero_add] at own_4
      obtain ⟨g9, c9, e9, hc9⟩ := own_formP own_4 (by omega)
      subst e9
      refine hK.out _ _ (sp_of x_4 y_4 z_4) (fun hHeld2 => ?_)
      clear hK K hHeld; have hHeld := hHeld2; clear hHeld2
      try simp only [Act.put, List.setIfInBounds_toArray, List.set_cons_zero, List.set_cons_succ]
      refine wpAnyH_ready (rs := [6]) (by kernel_rfl) (by simp) ?_
      refine AllReadyH.cons (o := { dst := some 38, op := Op.call { callee := Callee.value (Operand.func 36), args := #[Operand.tmp 37], argTypes := #[51] }, type := 3, pos := "law.go:53", after := #[{ on := 5, ground := Ground.data }, { on := 5, ground := Ground.chain }], guard := none }) rfl (fun K hK => ?_) (AllReadyH.nil)
      go_simp
      refine (hsm _ _ _ (pcs_app rfl own_4 hR hmb iv_4)).mono ?_; rintro e w_5 ⟨rfl, hb_5⟩
      have iv_5 := iv_4.call hb_5
      have x_5 := x_4.below hb_5 x_4.lt
      have y_5 := y_4.below hb_5 y_4.lt
      have z_5 := z_4.below hb_5 z_4.lt
      try go_wp2_with fail
      refine hK.out _ _ (sp_of x_5 y_5 z_5) (fun hHeld2 => ?_)
      clear hK K hHeld; have hHeld := hHeld2; clear hHeld2
      try simp only [Act.put, List.setIfInBounds_toArray, List.set_cons_zero, List.set_cons_succ]
      refine wpAnyH_take (i := 7) (oi := { dst := some 39, op := Op.binOp BinOp.eql 3 (Operand.tmp 38) (Operand.const (Value.int IntKind.i64 0)) 3, type := 4, pos := "law.go:53", after := #[{ on := 6, ground := Ground.data }], guard := none }) (v := ?_) rfl (by kernel_rfl) (by kernel_rfl) (by kernel_rfl) (fun _ _ _ h => h) (Or.inl ⟨by rfl, ?_⟩) hHeld ?_
      rotate_left
      · intro w hSw
        try dsimp only at hSw
        go_simp
        try with_reducible rfl
      try simp only [Act.put, List.setIfInBounds_toArray, List.set_cons_zero, List.set_cons_succ]
      refine wpAnyH_take (i := 8) (oi := { dst := some 40, op := Op.move (Operand.tmp 39), type := 4, pos := "law.go:53", after := #[{ on := 7, ground := Ground.data }, { on := 6, ground := Ground.chain }], guard := none }) (v := ?_) rfl (by kernel_rfl) (by kernel_rfl) (by kernel_rfl) (fun _ _ _ h => h) (Or.inl ⟨by rfl, ?_⟩) hHeld ?_
      rotate_left
      · intro w hSw
        try dsimp only at hSw
        go_simp
        try with_reducible rfl
      try simp only [Act.put, List.setIfInBounds_toArray, List.set_cons_zero, List.set_cons_succ]
      refine wpAnyH_take (i := 9) (oi := { dst := some 41, op := Op.load 65 (Operand.tmp 6), type := 65, pos := "law.go:53", after := #[{ on := 8, ground := Ground.guard }], guard := some (8, false) }) (v := undef) rfl (by kernel_rfl) (by kernel_rfl) (by kernel_rfl) (fun _ _ _ h => h) (Or.inr ⟨by rfl, rfl⟩) hHeld ?_
      try simp only [Act.put, List.setIfInBounds_toArray, List.set_cons_zero, List.set_cons_succ]
      refine wpAnyH_take (i := 10) (oi := { dst := some 42, op := Op.call { callee := Callee.value (Operand.func 42), args := #[Operand.tmp 41], argTypes := #[65] }, type := 3, pos := "law.go:53", after := #[{ on := 9, ground := Ground.data }, { on := 8, ground := Ground.chain }, { on := 8, ground := Ground.guard }], guard := some (8, false) }) (v := undef) rfl (by kernel_rfl) (by kernel_rfl) (by kernel_rfl) (fun _ _ _ h => h) (Or.inr ⟨by rfl, rfl⟩) hHeld ?_
      try simp only [Act.put, List.setIfInBounds_toArray, List.set_cons_zero, List.set_cons_succ]
      refine wpAnyH_take (i := 11) (oi := { dst := some 43, op := Op.binOp BinOp.eql 3 (Operand.tmp 42) (Operand.const (Value.int IntKind.i64 0)) 3, type := 4, pos := "law.go:53", after := #[{ on := 10, ground := Ground.data }, { on := 8, ground := Ground.guard }], guard := some (8, false) }) (v := undef) rfl (by kernel_rfl) (by kernel_rfl) (by kernel_rfl) (fun _ _ _ h => h) (Or.inr ⟨by rfl, rfl⟩) hHeld ?_
      try simp only [Act.put, List.setIfInBounds_toArray, List.set_cons_zero, List.set_cons_succ]
      refine wpAnyH_take (i := 12) (oi := { dst := some 44, op := Op.pick (Operand.tmp 40) (Operand.const (Value.bool true)) (Operand.tmp 43), type := 4, pos := "law.go:53", after := #[{ on := 8, ground := Ground.data }, { on := 11, ground := Ground.data }], guard := none }) (v := ?_) rfl (by kernel_rfl) (by kernel_rfl) (by kernel_rfl) (fun _ _ _ h => h) (Or.inl ⟨by rfl, ?_⟩) hHeld ?_
      rotate_left
      · intro w hSw
        try dsimp only at hSw
        go_simp
        try with_reducible rfl
      try simp only [Act.put, List.setIfInBounds_toArray, List.set_cons_zero, List.set_cons_succ]
      refine wpAnyH_done (by kernel_rfl) ?_ _
      clear hHeld
      go_wp2_with fail
      go_ret
      exact ⟨rfl, iv_5⟩
    · skip
      go_simp
      have q_6 := blk_at ((W0.drew).alloc (.cells (#[] : Array Value) 67)) 67 m.C (sz1 W0.drew _ rfl)
      have own_6 := own_1.alloc (.cells m.C 67)
      have iv_6 := iv_1.alloc (.cells m.C 67)
      have x_6 := x_1.alloc (.cells m.C 67)
      have y_6 := y_1.alloc (.cells m.C 67)
      have z_6 := z_1.alloc (.cells m.C 67)
      have sz_6 : W0.drew.heap.size ≤ (((W0.drew).alloc (.cells (#[] : Array Value) 67)).alloc (.cells m.C 67)).heap.size := by rw [sz1 _ _ rfl]; exact Nat.le_succ_of_le sz_1
      refine hK.out _ _ (sp_of x_6 y_6 z_6) (fun hHeld2 => ?_)
      clear hK K hHeld; have hHeld := hHeld2; clear hHeld2
      try simp only [Act.put, List.setIfInBounds_toArray, List.set_cons_zero, List.set_cons_succ]
      refine wpAnyH_ready (rs := [2]) (by kernel_rfl) (by simp) ?_
      refine AllReadyH.cons (o := { dst := some 34, op := Op.call { callee := Callee.builtin Builtin.append, args := #[Operand.tmp 32, Operand.tmp 33], argTypes := #[51, 51] }, type := 51, pos := "law.go:53", after := #[{ on := 0, ground := Ground.data }, { on := 1, ground := Ground.data }], guard := none }) rfl (fun K hK => ?_) (AllReadyH.nil)
      refine wp_append_any _ (.tmp 32) (.tmp 33) 51 rfl W0.drew.heap.size 67 i0i _ 4 48 Try.underlying51 HI.out hz0 hz1 hz2 rfl (by decide) _ 0 _ rfl own_6 _ _ n c (flatC L) rfl (hR.below iv_6.b).r (flatC_one L) (by unfold maxLen; omega) (by omega) sz_6 ?_
      intro v_7 W_7 own_7 hg_7 hat_7
      have iv_7 : BI w W_7 := Below.grown iv_6.b hg_7 iv_6.b.size (fun g hg => Nat.le_trans iv0.b.size (own_6.lt g hg).1)
      have x_7 := x_6.grown hg_7 (fun e => by have q1 := (own_6.lt _ e.symm).1; have q2 := x0.lt; omega)
      have y_7 := y_6.grown hg_7 (fun e => by have q1 := (own_6.lt _ e.symm).1; have q2 := y0.lt; omega)
      have z_7 := z_6.grown hg_7 (fun e => by have q1 := (own_6.lt _ e.symm).1; have q2 := z0.lt; omega)
      have q_7 := q_6.grown hg_7 (fun e => by first | (have e2 : some (W0.drew.heap.size + 1) = some W0.drew.heap.size := e; injection e2; omega) | (have e2 : some W0.drew.heap.size = some (W0.drew.heap.size + 1) := e; injection e2; omega))
      have sz_7 : W0.drew.heap.size ≤ W_7.heap.size := Nat.le_trans sz_6 hg_7.size
      refine hK.out _ _ (sp_of x_7 y_7 z_7) (fun hHeld2 => ?_)
      clear hK K hHeld; have hHeld := hHeld2; clear hHeld2
      try simp only [Act.put, List.setIfInBounds_toArray, List.set_cons_zero, List.set_cons_succ]
      refine wpAnyH_ready (rs := [5]) (by kernel_rfl) (by simp) ?_
      refine AllReadyH.cons (o := { dst := some 37, op := Op.call { callee := Callee.builtin Builtin.append, args := #[Operand.tmp 34, Operand.tmp 36], argTypes := #[51, 51] }, type := 51, pos := "law.go:53", after := #[{ on := 2, ground := Ground.data }, { on := 4, ground := Ground.data }, { on := 2, ground := Ground.chain }], guard := none }) rfl (fun K hK => ?_) (AllReadyH.nil)
      refine wp_append_any _ (.tmp 34) (.tmp 36) 51 rfl W0.drew.heap.size 67 i0i _ 4 48 Try.underlying51 HI.out hz0 hz1 hz2 rfl (by decide) _ (0 + n) _ rfl own_7 _ _ 1 1 (flatC [m]) rfl (one_readsC q_7) (flatC_one _) (by unfold maxLen; omega) (by omega) sz_7 ?_
      intro v_8 W_8 own_8 hg_8 hat_8
      have iv_8 : BI w W_8 := Below.grown iv_7.b hg_8 iv_7.b.size (fun g hg => Nat.le_trans iv0.b.size (own_7.lt g hg).1)
      have x_8 := x_7.grown hg_8 (fun e => by have q1 := (own_7.lt _ e.symm).1; have q2 := x0.lt; omega)
      have y_8 := y_7.grown hg_8 (fun e => by have q1 := (own_7.lt _ e.symm).1; have q2 := y0.lt; omega)
      have z_8 := z_7.grown hg_8 (fun e => by have q1 := (own_7.lt _ e.symm).1; have q2 := z0.lt; omega)
      have sz_8 : W0.drew.heap.size ≤ W_8.heap.size := Nat.le_trans sz_7 hg_8.size
      rw [List.nil_append, ← flatC_app, Nat.zero_add] at own_8
      obtain ⟨g9, c9, e9, hc9⟩ := own_formP own_8 (by omega)
      subst e9
      refine hK.out _ _ (sp_of x_8 y_8 z_8) (fun hHeld2 => ?_)
      clear hK K hHeld; have hHeld := hHeld2; clear hHeld2
      try simp only [Act.put, List.setIfInBounds_toArray, List.set_cons_zero, List.set_cons_succ]
      refine wpAnyH_ready (rs := [6]) (by kernel_rfl) (by simp) ?_
      refine AllReadyH.cons (o := { dst := some 38, op := Op.call { callee := Callee.value (Operand.func 36), args := #[Operand.tmp 37], argTypes := #[51] }, type := 3, pos := "law.go:53", after := #[{ on := 5, ground := Ground.data }, { on := 5, ground := Ground.chain }], guard := none }) rfl (fun K hK => ?_) (AllReadyH.nil)
      go_simp
      refine (hsm _ _ _ (pcs_app rfl own_8 hR hmb iv_8)).mono ?_; rintro e w_9 ⟨rfl, hb_9⟩
      have iv_9 := iv_8.call hb_9
      have x_9 := x_8.below hb_9 x_8.lt
      have y_9 := y_8.below hb_9 y_8.lt
      have z_9 := z_8.below hb_9 z_8.lt
      try go_wp2_with fail
      refine hK.out _ _ (sp_of x_9 y_9 z_9) (fun hHeld2 => ?_)
      clear hK K hHeld; have hHeld := hHeld2; clear hHeld2
      try simp only [Act.put, List.setIfInBounds_toArray, List.set_cons_zero, List.set_cons_succ]
      refine wpAnyH_take (i := 7) (oi := { dst := some 39, op := Op.binOp BinOp.eql 3 (Operand.tmp 38) (Operand.const (Value.int IntKind.i64 0)) 3, type := 4, pos := "law.go:53", after := #[{ on := 6, ground := Ground.data }], guard := none }) (v := ?_) rfl (by kernel_rfl) (by kernel_rfl) (by kernel_rfl) (fun _ _ _ h => h) (Or.inl ⟨by rfl, ?_⟩) hHeld ?_
      rotate_left
      · intro w hSw
        try dsimp only at hSw
        go_simp
        try with_reducible rfl
      try simp only [Act.put, List.setIfInBounds_toArray, List.set_cons_zero, List.set_cons_succ]
      refine wpAnyH_take (i := 8) (oi := { dst := some 40, op := Op.move (Operand.tmp 39), type := 4, pos := "law.go:53", after := #[{ on := 7, ground := Ground.data }, { on := 6, ground := Ground.chain }], guard := none }) (v := ?_) rfl (by kernel_rfl) (by kernel_rfl) (by kernel_rfl) (fun _ _ _ h => h) (Or.inl ⟨by rfl, ?_⟩) hHeld ?_
      rotate_left
      · intro w hSw
        try dsimp only at hSw
        go_simp
        try with_reducible rfl
      try simp only [Act.put, List.setIfInBounds_toArray, List.set_cons_zero, List.set_cons_succ]
      refine wpAnyH_take (i := 9) (oi := { dst := some 41, op := Op.load 65 (Operand.tmp 6), type := 65, pos := "law.go:53", after := #[{ on := 8, ground := Ground.guard }], guard := some (8, false) }) (v := undef) rfl (by kernel_rfl) (by kernel_rfl) (by kernel_rfl) (fun _ _ _ h => h) (Or.inr ⟨by rfl, rfl⟩) hHeld ?_
      try simp only [Act.put, List.setIfInBounds_toArray, List.set_cons_zero, List.set_cons_succ]
      refine wpAnyH_take (i := 10) (oi := { dst := some 42, op := Op.call { callee := Callee.value (Operand.func 42), args := #[Operand.tmp 41], argTypes := #[65] }, type := 3, pos := "law.go:53", after := #[{ on := 9, ground := Ground.data }, { on := 8, ground := Ground.chain }, { on := 8, ground := Ground.guard }], guard := some (8, false) }) (v := undef) rfl (by kernel_rfl) (by kernel_rfl) (by kernel_rfl) (fun _ _ _ h => h) (Or.inr ⟨by rfl, rfl⟩) hHeld ?_
      try simp only [Act.put, List.setIfInBounds_toArray, List.set_cons_zero, List.set_cons_succ]
      refine wpAnyH_take (i := 11) (oi := { dst := some 43, op := Op.binOp BinOp.eql 3 (Operand.tmp 42) (Operand.const (Value.int IntKind.i64 0)) 3, type := 4, pos := "law.go:53", after := #[{ on := 10, ground := Ground.data }, { on := 8, ground := Ground.guard }], guard := some (8, false) }) (v := undef) rfl (by kernel_rfl) (by kernel_rfl) (by kernel_rfl) (fun _ _ _ h => h) (Or.inr ⟨by rfl, rfl⟩) hHeld ?_
      try simp only [Act.put, List.setIfInBounds_toArray, List.set_cons_zero, List.set_cons_succ]
      refine wpAnyH_take (i := 12) (oi := { dst := some 44, op := Op.pick (Operand.tmp 40) (Operand.const (Value.bool true)) (Operand.tmp 43), type := 4, pos := "law.go:53", after := #[{ on := 8, ground := Ground.data }, { on := 11, ground := Ground.data }], guard := none }) (v := ?_) rfl (by kernel_rfl) (by kernel_rfl) (by kernel_rfl) (fun _ _ _ h => h) (Or.inl ⟨by rfl, ?_⟩) hHeld ?_
      rotate_left
      · intro w hSw
        try dsimp only at hSw
        go_simp
        try with_reducible rfl
      try simp only [Act.put, List.setIfInBounds_toArray, List.set_cons_zero, List.set_cons_succ]
      refine wpAnyH_done (by kernel_rfl) ?_ _
      clear hHeld
      go_wp2_with fail
      go_ret
      exact ⟨rfl, iv_9⟩
  · skip
    go_simp
    have q_10 := Blk.new (W0.drew) 67 m.C
    have iv_10 := iv0.alloc (.cells m.C 67)
    have x_10 := x0.alloc (.cells m.C 67)
    have y_10 := y0.alloc (.cells m.C 67)
    have z_10 := z0.alloc (.cells m.C 67)
    have sz_10 : W0.drew.heap.size ≤ ((W0.drew).alloc (.cells m.C 67)).heap.size := by rw [sz1 _ _ rfl]; exact Nat.le_succ_of_le (Nat.le_refl W0.drew.heap.size)
    refine hK.out _ _ (sp_of x_10 y_10 z_10) (fun hHeld2 => ?_)
    clear hK K hHeld; have hHeld := hHeld2; clear hHeld2
    try simp only [Act.put, List.setIfInBounds_toArray, List.set_cons_zero, List.set_cons_succ]
    refine wpAnyH_ready (rs := [0]) (by kernel_rfl) (by simp) ?_
    refine AllReadyH.cons (o := { dst := some 32, op := Op.buildSlice 51 0 #[], type := 51, pos := "law.go:53", after := #[], guard := none }) rfl (fun K hK => ?_) (AllReadyH.nil)
    go_simp
    have own_11 := own_xP (base := W0.drew.heap.size) ((W0.drew).alloc (.cells m.C 67)) sz_10
    rw [sz1 W0.drew _ rfl] at own_11
    have q_11 := q_10.alloc (.cells (#[] : Array Value) 67)
    have iv_11 := iv_10.alloc (.cells (#[] : Array Value) 67)
    have x_11 := x_10.alloc (.cells (#[] : Array Value) 67)
    have y_11 := y_10.alloc (.cells (#[] : Array Value) 67)
    have z_11 := z_10.alloc (.cells (#[] : Array Value) 67)
    have sz_11 : W0.drew.heap.size ≤ (((W0.drew).alloc (.cells m.C 67)).alloc (.cells (#[] : Array Value) 67)).heap.size := by rw [sz1 _ _ rfl]; exact Nat.le_succ_of_le sz_10
    refine hK.out _ _ (sp_of x_11 y_11 z_11) (fun hHeld2 => ?_)
    clear hK K hHeld; have hHeld := hHeld2; clear hHeld2
    try simp only [Act.put, List.setIfInBounds_toArray, List.set_cons_zero, List.set_cons_succ]
    refine wpAnyH_ready (rs := [2]) (by kernel_rfl) (by simp) ?_
    refine AllReadyH.cons (o := { dst := some 34, op := Op.call { callee := Callee.builtin Builtin.append, args := #[Operand.tmp 32, Operand.tmp 33], argTypes := #[51, 51] }, type := 51, pos := "law.go:53", after := #[{ on := 0, ground := Ground.data }, { on := 1, ground := Ground.data }], guard := none }) rfl (fun K hK => ?_) (AllReadyH.nil)
    refine wp_append_any _ (.tmp 32) (.tmp 33) 51 rfl W0.drew.heap.size 67 i0i _ 4 48 Try.underlying51 HI.out hz0 hz1 hz2 rfl (by decide) _ 0 _ rfl own_11 _ _ n c (flatC L) rfl (hR.below iv_11.b).r (flatC_one L) (by unfold maxLen; omega) (by omega) sz_11 ?_
    intro v_12 W_12 own_12 hg_12 hat_12
    have iv_12 : BI w W_12 := Below.grown iv_11.b hg_12 iv_11.b.size (fun g hg => Nat.le_trans iv0.b.size (own_11.lt g hg).1)
    have x_12 := x_11.grown hg_12 (fun e => by have q1 := (own_11.lt _ e.symm).1; have q2 := x0.lt; omega)
    have y_12 := y_11.grown hg_12 (fun e => by have q1 := (own_11.lt _ e.symm).1; have q2 := y0.lt; omega)
    have z_12 := z_11.grown hg_12 (fun e => by have q1 := (own_11.lt _ e.symm).1; have q2 := z0.lt; omega)
    have q_12 := q_11.grown hg_12 (fun e => by first | (have e2 : some (W0.drew.heap.size + 1) = some W0.drew.heap.size := e; injection e2; omega) | (have e2 : some W0.drew.heap.size = some (W0.drew.heap.size + 1) := e; injection e2; omega))
    have sz_12 : W0.drew.heap.size ≤ W_12.heap.size := Nat.le_trans sz_11 hg_12.size
    refine hK.out _ _ (sp_of x_12 y_12 z_12) (fun hHeld2 => ?_)
    clear hK K hHeld; have hHeld := hHeld2; clear hHeld2
    try simp only [Act.put, List.setIfInBounds_toArray, List.set_cons_zero, List.set_cons_succ]
    refine wpAnyH_ready (rs := [5]) (by kernel_rfl) (by simp) ?_
    refine AllReadyH.cons (o := { dst := some 37, op := Op.call { callee := Callee.builtin Builtin.append, args := #[Operand.tmp 34, Operand.tmp 36], argTypes := #[51, 51] }, type := 51, pos := "law.go:53", after := #[{ on := 2, ground := Ground.data }, { on := 4, ground := Ground.data }, { on := 2, ground := Ground.chain }], guard := none }) rfl (fun K hK => ?_) (AllReadyH.nil)
    refine wp_append_any _ (.tmp 34) (.tmp 36) 51 rfl W0.drew.heap.size 67 i0i _ 4 48 Try.underlying51 HI.out hz0 hz1 hz2 rfl (by decide) _ (0 + n) _ rfl own_12 _ _ 1 1 (flatC [m]) rfl (one_readsC q_12) (flatC_one _) (by unfold maxLen; omega) (by omega) sz_12 ?_
    intro v_13 W_13 own_13 hg_13 hat_13
    have iv_13 : BI w W_13 := Below.grown iv_12.b hg_13 iv_12.b.size (fun g hg => Nat.le_trans iv0.b.size (own_12.lt g hg).1)
    have x_13 := x_12.grown hg_13 (fun e => by have q1 := (own_12.lt _ e.symm).1; have q2 := x0.lt; omega)
    have y_13 := y_12.grown hg_13 (fun e => by have q1 := (own_12.lt _ e.symm).1; have q2 := y0.lt; omega)
    have z_13 := z_12.grown hg_13 (fun e => by have q1 := (own_12.lt _ e.symm).1; have q2 := z0.lt; omega)
    have sz_13 : W0.drew.heap.size ≤ W_13.heap.size := Nat.le_trans sz_12 hg_13.size
    rw [List.nil_append, ← flatC_app, Nat.zero_add] at own_13
    obtain ⟨g9, c9, e9, hc9⟩ := own_formP own_13 (by omega)
    subst e9
    refine hK.out _ _ (sp_of x_13 y_13 z_13) (fun hHeld2 => ?_)
    clear hK K hHeld; have hHeld := hHeld2; clear hHeld2
    try simp only [Act.put, List.setIfInBounds_toArray, List.set_cons_zero, List.set_cons_succ]
    refine wpAnyH_ready (rs := [6]) (by kernel_rfl) (by simp) ?_
    refine AllReadyH.cons (o := { dst := some 38, op := Op.call { callee := Callee.value (Operand.func 36), args := #[Operand.tmp 37], argTypes := #[51] }, type := 3, pos := "law.go:53", after := #[{ on := 5, ground := Ground.data }, { on := 5, ground := Ground.chain }], guard := none }) rfl (fun K hK => ?_) (AllReadyH.nil)
    go_simp
    refine (hsm _ _ _ (pcs_app rfl own_13 hR hmb iv_13)).mono ?_; rintro e w_14 ⟨rfl, hb_14⟩
    have iv_14 := iv_13.call hb_14
    have x_14 := x_13.below hb_14 x_13.lt
    have y_14 := y_13.below hb_14 y_13.lt
    have z_14 := z_13.below hb_14 z_13.lt
    try go_wp2_with fail
    refine hK.out _ _ (sp_of x_14 y_14 z_14) (fun hHeld2 => ?_)
    clear hK K hHeld; have hHeld := hHeld2; clear hHeld2
    try simp only [Act.put, List.setIfInBounds_toArray, List.set_cons_zero, List.set_cons_succ]
    refine wpAnyH_take (i := 7) (oi := { dst := some 39, op := Op.binOp BinOp.eql 3 (Operand.tmp 38) (Operand.const (Value.int IntKind.i64 0)) 3, type := 4, pos := "law.go:53", after := #[{ on := 6, ground := Ground.data }], guard := none }) (v := ?_) rfl (by kernel_rfl) (by kernel_rfl) (by kernel_rfl) (fun _ _ _ h => h) (Or.inl ⟨by rfl, ?_⟩) hHeld ?_
    rotate_left
    · intro w hSw
      try dsimp only at hSw
      go_simp
      try with_reducible rfl
    try simp only [Act.put, List.setIfInBounds_toArray, List.set_cons_zero, List.set_cons_succ]
    refine wpAnyH_take (i := 8) (oi := { dst := some 40, op := Op.move (Operand.tmp 39), type := 4, pos := "law.go:53", after := #[{ on := 7, ground := Ground.data }, { on := 6, ground := Ground.chain }], guard := none }) (v := ?_) rfl (by kernel_rfl) (by kernel_rfl) (by kernel_rfl) (fun _ _ _ h => h) (Or.inl ⟨by rfl, ?_⟩) hHeld ?_
    rotate_left
    · intro w hSw
      try dsimp only at hSw
      go_simp
      try with_reducible rfl
    try simp only [Act.put, List.setIfInBounds_toArray, List.set_cons_zero, List.set_cons_succ]
    refine wpAnyH_take (i := 9) (oi := { dst := some 41, op := Op.load 65 (Operand.tmp 6), type := 65, pos := "law.go:53", after := #[{ on := 8, ground := Ground.guard }], guard := some (8, false) }) (v := undef) rfl (by kernel_rfl) (by kernel_rfl) (by kernel_rfl) (fun _ _ _ h => h) (Or.inr ⟨by rfl, rfl⟩) hHeld ?_
    try simp only [Act.put, List.setIfInBounds_toArray, List.set_cons_zero, List.set_cons_succ]
    refine wpAnyH_take (i := 10) (oi := { dst := some 42, op := Op.call { callee := Callee.value (Operand.func 42), args := #[Operand.tmp 41], argTypes := #[65] }, type := 3, pos := "law.go:53", after := #[{ on := 9, ground := Ground.data }, { on := 8, ground := Ground.chain }, { on := 8, ground := Ground.guard }], guard := some (8, false) }) (v := undef) rfl (by kernel_rfl) (by kernel_rfl) (by kernel_rfl) (fun _ _ _ h => h) (Or.inr ⟨by rfl, rfl⟩) hHeld ?_
    try simp only [Act.put, List.setIfInBounds_toArray, List.set_cons_zero, List.set_cons_succ]
    refine wpAnyH_take (i := 11) (oi := { dst := some 43, op := Op.binOp BinOp.eql 3 (Operand.tmp 42) (Operand.const (Value.int IntKind.i64 0)) 3, type := 4, pos := "law.go:53", after := #[{ on := 10, ground := Ground.data }, { on := 8, ground := Ground.guard }], guard := some (8, false) }) (v := undef) rfl (by kernel_rfl) (by kernel_rfl) (by kernel_rfl) (fun _ _ _ h => h) (Or.inr ⟨by rfl, rfl⟩) hHeld ?_
    try simp only [Act.put, List.setIfInBounds_toArray, List.set_cons_zero, List.set_cons_succ]
    refine wpAnyH_take (i := 12) (oi := { dst := some 44, op := Op.pick (Operand.tmp 40) (Operand.const (Value.bool true)) (Operand.tmp 43), type := 4, pos := "law.go:53", after := #[{ on := 8, ground := Ground.data }, { on := 11, ground := Ground.data }], guard := none }) (v := ?_) rfl (by kernel_rfl) (by kernel_rfl) (by kernel_rfl) (fun _ _ _ h => h) (Or.inl ⟨by rfl, ?_⟩) hHeld ?_
    rotate_left
    · intro w hSw
      try dsimp only at hSw
      go_simp
      try with_reducible rfl
    try simp only [Act.put, List.setIfInBounds_toArray, List.set_cons_zero, List.set_cons_succ]
    refine wpAnyH_done (by kernel_rfl) ?_ _
    clear hHeld
    go_wp2_with fail
    go_ret
    exact ⟨rfl, iv_14⟩
end Go.Proofs.Ytoiccljmdplfgaa.Nr
