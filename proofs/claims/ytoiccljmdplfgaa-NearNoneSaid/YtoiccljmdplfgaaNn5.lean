/-
  NearNone: walked.
-/
import Derived.Test.YtoiccljmdplfgaaNn4
import Derived.Deep.DrawnRows
namespace Go.Proofs.Ytoiccljmdplfgaa.Nr
open Go.ChangeShapes Go.WideShapes Go.ChangeAt Go.RowKit Go.Shelf
open Go.Proofs.Ytoiccljmdplfgaa
open Go.Proofs.Ytoiccljmdplfgaa.Wd
open Go.Proofs.Ytoiccljmdplfgaa.Pl
open Go.Proofs.Ytoiccljmdplfgaa.Nv
open Go.Proofs.Ytoiccljmdplfgaa.Ar
open Go.Proofs.Ytoiccljmdplfgaa.Ld
open Go.Proofs.Ytoiccljmdplfgaa.So (ordF ordF_pm ordF_sd sort_any Pm Sd Lt)
open Go.Proofs.Ytoiccljmdplfgaa.Sr (SoR Hd key net key_inj)
open Go.Proofs.Ytoiccljmdplfgaa.Lk (lead zone_any)
set_option linter.unusedVariables false
set_option linter.unusedSimpArgs false
attribute [local go_sem ↓] Go.wp_at_zero Go.wp_at_succ
attribute [local go_sem ↓] ldP_sem ldS_sem ldPl_sem
attribute [local go_sem] ldSem_run
set_option maxRecDepth 100000 in
set_option maxHeartbeats 25600000 in
theorem none_main (A : Option Addr) (n c : Nat) (L : List Pc) (h : Hd) (S : Sr.So) (p : P2) (m : Pc) (d : Int) (w : World) (hR : Pcs w w.heap.size A n L) (hby : n * 48 ≤ 140737488351232) (hS : SoR w w.heap.size h S) (hmb : m.t.size ≤ maxLen ∧ m.z.size ≤ maxLen) (hs : fwB (L ++ [m]) = true) :
    Calls Try.prog 10 #[.slice A n c, h.V, p.V, m.V, .int .i64 d] w fun e w' => e = .returned (.bool true) ∧ Below w.heap.size w w' := by
  have hm : n ≤ maxLen := by unfold maxLen; omega
  have hn60 : n ≤ 59 := by have := fw_few hs; rw [List.length_append, List.length_singleton, hR.len] at this; omega
  have hll := hR.len
  have hnm : n + 1 ≤ 2932031007404 := by omega
  have i1 := (((BI.start w).alloc (.cells h.C 65)).alloc (.cells p.A 23)).alloc (.cells m.C 67)
  have x1 := ((Blk.new w 65 h.C).alloc (.cells p.A 23)).alloc (.cells m.C 67)
  have y1 := (blk_at (w.alloc (.cells h.C 65)) 23 p.A (sz1 _ _ rfl)).alloc (.cells m.C 67)
  have z1 := blk_at ((w.alloc (.cells h.C 65)).alloc (.cells p.A 23)) 67 m.C (sz1 _ _ (sz1 _ _ rfl))
  have hsm := fun (W : World) (A9 : Option Addr) (c9 : Nat) (k : Pcs W W.heap.size A9 (n + 1) (L ++ [m])) => small42_det A9 (n + 1) c9 (L ++ [m]) W k (by unfold maxLen; omega)
  rw [hs] at hsm
  simp only [if_true] at hsm
  obtain ⟨i0i, hi0', hz0, hz1, hz2⟩ := info_parts pl_info
  have HI := Lib.hid hi0'
  clear hi0' hs
  go_enter Try.func10, Try.ntmps10
  go_upto_region 1 with fail
  generalize ((w.alloc (.cells h.C 65)).alloc (.cells p.A 23)).alloc (.cells m.C 67) = W9 at *
  have hgp : w.heap.size ≤ w.heap.size + 1 := Nat.le_succ _
  have hgm : w.heap.size ≤ w.heap.size + 1 + 1 := by omega
  generalize w.heap.size + 1 + 1 = gm at *
  generalize w.heap.size + 1 = gp at *
  go_wp2_with fail
  refine (lives43_any _).mono ?_; rintro e w2 ⟨rfl, hb2⟩
  have i2 := i1.call hb2; have x2 := x1.below hb2 x1.lt; have y2 := y1.below hb2 y1.lt; have z2 := z1.below hb2 z1.lt
  clear i1 x1 y1 z1 hb2
  go_upto_region 3 with fail
  obtain ⟨W0, rfl⟩ : ∃ W0 : World, W0 = w2 := ⟨_, rfl⟩
  have x0 : Blk W0.drew w.heap.size 65 h.C := x2
  have y0 : Blk W0.drew gp 23 p.A := y2
  have z0 : Blk W0.drew gm 67 m.C := z2
  have iv0 : BI w W0.drew := i2.drew
  clear x2 y2 z2 i2
  go_cut [44] (fun v wx => ∃ b, v = .bool b ∧ (b = false → Sr.SoS h S) ∧ BI w wx ∧ Blk wx w.heap.size 65 h.C ∧ Blk wx gp 23 p.A ∧ Blk wx gm 67 m.C)
  case first =>
    refine wp_region_held_drew (S := fun w' => Blk w' w.heap.size 65 h.C ∧ ldT 65 (.pointer (some ⟨w.heap.size, 0, none⟩)) w' = some h.C ∧ Blk w' gp 23 p.A ∧ ldT 23 (.pointer (some ⟨gp, 0, none⟩)) w' = some p.A ∧ Blk w' gm 67 m.C ∧ ldT 67 (.pointer (some ⟨gm, 0, none⟩)) w' = some m.C) (by kernel_rfl) (sp_of x0 y0 z0) (fun hHeld => ?_)
    refine wpAnyH_take (i := 1) (oi := { dst := some 33, op := Op.move (Operand.tmp 0), type := 51, pos := "law.go:53", after := #[], guard := none }) (v := ?_) rfl (by kernel_rfl) (by kernel_rfl) (by kernel_rfl) (fun _ _ _ h => h) (Or.inl ⟨by rfl, ?_⟩) hHeld ?_
    rotate_left
    · intro w hSw
      try dsimp only at hSw
      go_simp
      try with_reducible rfl
    try simp only [Act.put, List.setIfInBounds_toArray, List.set_cons_zero, List.set_cons_succ]
    refine wpAnyH_take (i := 3) (oi := { dst := some 35, op := Op.load 67 (Operand.tmp 8), type := 67, pos := "law.go:53", after := #[], guard := none }) (v := ?_) rfl (by kernel_rfl) (by kernel_rfl) (by kernel_rfl) (fun _ _ _ h => h) (Or.inl ⟨by rfl, ?_⟩) hHeld ?_
    rotate_left
    · intro w hSw
      try dsimp only at hSw
      go_simp
      try with_reducible rfl
    try simp only [Act.put, List.setIfInBounds_toArray, List.set_cons_zero, List.set_cons_succ]
    refine wpAnyH_ready (rs := [0, 4]) (by kernel_rfl) (by simp) ?_
    refine AllReadyH.cons (o := { dst := some 32, op := Op.buildSlice 51 0 #[], type := 51, pos := "law.go:53", after := #[], guard := none }) rfl (fun K hK => ?_) (AllReadyH.cons (o := { dst := some 36, op := Op.buildSlice 51 1 #[(0, Operand.tmp 35)], type := 51, pos := "law.go:53", after := #[{ on := 3, ground := Ground.data }], guard := none }) rfl (fun K hK => ?_) (AllReadyH.nil))
    · skip
      go_simp
      have own_1 := own_xP (base := W0.drew.heap.size) (W0.drew) (Nat.le_refl W0.drew.heap.size)
      have iv_1 := iv0.alloc (.cells (#[] : Array Value) 67)
      have x_1 := x0.alloc (.cells (#[] : Array Value) 67)
      have y_1 := y0.alloc (.cells (#[] : Array Value) 67)
      have z_1 := z0.alloc (.cells (#[] : Array Value) 67)
      have sz_1 : W0.drew.heap.size ≤ ((W0.drew).alloc (.cells (#[] : Array Value) 67)).heap.size := by rw [sz1 _ _ rfl]; exact Nat.le_succ_of_le (Nat.le_refl W0.drew.heap.size)
      refine hK.out _ _ (sp_of x_1 y_1 z_1) (fun hHeld2 => ?_)
      clear hK K hHeld; have hHeld := hHeld2; clear hHeld2
      try simp only [Act.put, List.setIfInBounds_toArray, List.set_cons_zero, List.set_cons_succ]
      refine wpAnyH_ready (rs := [2, 4]) (by kernel_rfl) (by simp) ?_
      refine AllReadyH.cons (o := { dst := some 34, op := Op.call { callee := Callee.builtin Builtin.append, args := #[Operand.tmp 32, Operand.tmp 33], argTypes := #[51, 51] }, type := 51, pos := "law.go:53", after := #[{ on := 0, ground := Ground.data }, { on := 1, ground := Ground.data }], guard := none }) rfl (fun K hK => ?_) (AllReadyH.cons (o := { dst := some 36, op := Op.buildSlice 51 1 #[(0, Operand.tmp 35)], type := 51, pos := "law.go:53", after := #[{ on := 3, ground := Ground.data }], guard := none }) rfl (fun K hK => ?_) (AllReadyH.nil))
      · skip
        refine wp_append_any _ (.tmp 32) (.tmp 33) 51 rfl W0.drew.heap.size 67 i0i _ 4 48 Try.underlying51 HI.out hz0 hz1 hz2 rfl (by decide) _ 0 _ rfl own_1 _ _ n c (flatC L) rfl (hR.below iv_1.b).r (flatC_one L) (by unfold maxLen; omega) (by omega) sz_1 ?_
        intro v_2 W_2 own_2 hg_2 hat_2
        have iv_2 : BI w W_2 := Below.grown iv_1.b hg_2 iv_1.b.size (fun g hg => Nat.le_trans iv0.b.size (own_1.lt g hg).1)
        have x_2 := x_1.grown hg_2 (fun e => by have q1 := (own_1.lt _ e.symm).1; have q2 := x0.lt; omega)
        have y_2 := y_1.grown hg_2 (fun e => by have q1 := (own_1.lt _ e.symm).1; have q2 := y0.lt; omega)
        have z_2 := z_1.grown hg_2 (fun e => by have q1 := (own_1.lt _ e.symm).1; have q2 := z0.lt; omega)
        have sz_2 : W0.drew.heap.size ≤ W_2.heap.size := Nat.le_trans sz_1 hg_2.size
        refine hK.out _ _ (sp_of x_2 y_2 z_2) (fun hHeld2 => ?_)
        clear hK K hHeld; have hHeld := hHeld2; clear hHeld2
        try simp only [Act.put, List.setIfInBounds_toArray, List.set_cons_zero, List.set_cons_succ]
        refine wpAnyH_ready (rs := [4]) (by kernel_rfl) (by simp) ?_
        refine AllReadyH.cons (o := { dst := some 36, op := Op.buildSlice 51 1 #[(0, Operand.tmp 35)], type := 51, pos := "law.go:53", after := #[{ on := 3, ground := Ground.data }], guard := none }) rfl (fun K hK => ?_) (AllReadyH.nil)
        go_simp
        have q_3 := Blk.new (W_2) 67 m.C
        have own_3 := own_2.alloc (.cells m.C 67)
        have iv_3 := iv_2.alloc (.cells m.C 67)
        have x_3 := x_2.alloc (.cells m.C 67)
        have y_3 := y_2.alloc (.cells m.C 67)
        have z_3 := z_2.alloc (.cells m.C 67)
        have sz_3 : W0.drew.heap.size ≤ ((W_2).alloc (.cells m.C 67)).heap.size := by rw [sz1 _ _ rfl]; exact Nat.le_succ_of_le sz_2
        refine hK.out _ _ (sp_of x_3 y_3 z_3) (fun hHeld2 => ?_)
        clear hK K hHeld; have hHeld := hHeld2; clear hHeld2
        try simp only [Act.put, List.setIfInBounds_toArray, List.set_cons_zero, List.set_cons_succ]
        refine wpAnyH_ready (rs := [5]) (by kernel_rfl) (by simp) ?_
        refine AllReadyH.cons (o := { dst := some 37, op := Op.call { callee := Callee.builtin Builtin.append, args := #[Operand.tmp 34, Operand.tmp 36], argTypes := #[51, 51] }, type := 51, pos := "law.go:53", after := #[{ on := 2, ground := Ground.data }, { on := 4, ground := Ground.data }, { on := 2, ground := Ground.chain }], guard := none }) rfl (fun K hK => ?_) (AllReadyH.nil)
        refine wp_append_any _ (.tmp 34) (.tmp 36) 51 rfl W0.drew.heap.size 67 i0i _ 4 48 Try.underlying51 HI.out hz0 hz1 hz2 rfl (by decide) _ (0 + n) _ rfl own_3 _ _ 1 1 (flatC [m]) rfl (one_readsC q_3) (flatC_one _) (by unfold maxLen; omega) (by omega) sz_3 ?_
        intro v_4 W_4 own_4 hg_4 hat_4
        have iv_4 : BI w W_4 := Below.grown iv_3.b hg_4 iv_3.b.size (fun g hg => Nat.le_trans iv0.b.size (own_3.lt g hg).1)
        have x_4 := x_3.grown hg_4 (fun e => by have q1 := (own_3.lt _ e.symm).1; have q2 := x0.lt; omega)
        have y_4 := y_3.grown hg_4 (fun e => by have q1 := (own_3.lt _ e.symm).1; have q2 := y0.lt; omega)
        have z_4 := z_3.grown hg_4 (fun e => by have q1 := (own_3.lt _ e.symm).1; have q2 := z0.lt; omega)
        have sz_4 : W0.drew.heap.size ≤ W_4.heap.size := Nat.le_trans sz_3 hg_4.size
        rw [List.nil_append, ← flatC_app, Nat.zero_add] at own_4
        obtain ⟨g9, c9, e9, hc9⟩ := own_formP own_4 (by omega)
        subst e9
        refine hK.out _ _ (sp_of x_4 y_4 z_4) (fun hHeld2 => ?_)
        clear hK K hHeld; have hHeld := hHeld2; clear hHeld2
        try simp only [Act.put, List.setIfInBounds_toArray, List.set_cons_zero, List.set_cons_succ]
        refine wpAnyH_ready (rs := [6]) (by kernel_rfl) (by simp) ?_
        refine AllReadyH.cons (o := { dst := some 38, op := Op.call { callee := Callee.value (Operand.func 36), args := #[Operand.tmp 37], argTypes := #[51] }, type := 3, pos := "law.go:53", after := #[{ on := 5, ground := Ground.data }, { on := 5, ground := Ground.chain }], guard := none }) rfl (fun K hK => ?_) (AllReadyH.nil)
        go_simp
        refine (hsm _ _ _ (pcs_app rfl own_4 hR hmb iv_4)).mono ?_; rintro e w_5 ⟨rfl, hb_5⟩
        have iv_5 := iv_4.call hb_5
        have x_5 := x_4.below hb_5 x_4.lt
        have y_5 := y_4.below hb_5 y_4.lt
        have z_5 := z_4.below hb_5 z_4.lt
        try go_wp2_with fail
        refine hK.out _ _ (sp_of x_5 y_5 z_5) (fun hHeld2 => ?_)
        clear hK K hHeld; have hHeld := hHeld2; clear hHeld2
        try simp only [Act.put, List.setIfInBounds_toArray, List.set_cons_zero, List.set_cons_succ]
        refine wpAnyH_take (i := 7) (oi := { dst := some 39, op := Op.binOp BinOp.eql 3 (Operand.tmp 38) (Operand.const (Value.int IntKind.i64 0)) 3, type := 4, pos := "law.go:53", after := #[{ on := 6, ground := Ground.data }], guard := none }) (v := ?_) rfl (by kernel_rfl) (by kernel_rfl) (by kernel_rfl) (fun _ _ _ h => h) (Or.inl ⟨by rfl, ?_⟩) hHeld ?_
        rotate_left
        · intro w hSw
          try dsimp only at hSw
          go_simp
          try with_reducible rfl
        try simp only [Act.put, List.setIfInBounds_toArray, List.set_cons_zero, List.set_cons_succ]
        refine wpAnyH_take (i := 8) (oi := { dst := some 40, op := Op.move (Operand.tmp 39), type := 4, pos := "law.go:53", after := #[{ on := 7, ground := Ground.data }, { on := 6, ground := Ground.chain }], guard := none }) (v := ?_) rfl (by kernel_rfl) (by kernel_rfl) (by kernel_rfl) (fun _ _ _ h => h) (Or.inl ⟨by rfl, ?_⟩) hHeld ?_
        rotate_left
        · intro w hSw
          try dsimp only at hSw
          go_simp
          try with_reducible rfl
        try simp only [Act.put, List.setIfInBounds_toArray, List.set_cons_zero, List.set_cons_succ]
        refine wpAnyH_take (i := 9) (oi := { dst := some 41, op := Op.load 65 (Operand.tmp 6), type := 65, pos := "law.go:53", after := #[{ on := 8, ground := Ground.guard }], guard := some (8, false) }) (v := ?_) rfl (by kernel_rfl) (by kernel_rfl) (by kernel_rfl) (fun _ _ _ h => h) (Or.inl ⟨by rfl, ?_⟩) hHeld ?_
        rotate_left
        · intro w hSw
          try dsimp only at hSw
          go_simp
          try with_reducible rfl
        try simp only [Act.put, List.setIfInBounds_toArray, List.set_cons_zero, List.set_cons_succ]
        refine wpAnyH_ready (rs := [10]) (by kernel_rfl) (by simp) ?_
        refine AllReadyH.cons (o := { dst := some 42, op := Op.call { callee := Callee.value (Operand.func 42), args := #[Operand.tmp 41], argTypes := #[65] }, type := 3, pos := "law.go:53", after := #[{ on := 9, ground := Ground.data }, { on := 8, ground := Ground.chain }, { on := 8, ground := Ground.guard }], guard := some (8, false) }) rfl (fun K hK => ?_) (AllReadyH.nil)
        go_simp
        refine (Sr.small_any h S _ ((hS.below iv_5.b).more iv_5.b.size)).mono ?_; rintro e w_6 ⟨hc_6, hb_6⟩
        obtain ⟨r, rfl, hr⟩ : ∃ r : Int, e = .returned (.int .i64 r) ∧ (r = 0 ∨ (r = 1 ∧ Sr.SoS h S)) := hc_6.elim (fun e => ⟨0, e, .inl rfl⟩) (fun q => ⟨1, q.1, .inr ⟨rfl, q.2⟩⟩)
        have iv_6 := iv_5.call hb_6
        have x_6 := x_5.below hb_6 x_5.lt
        have y_6 := y_5.below hb_6 y_5.lt
        have z_6 := z_5.below hb_6 z_5.lt
        try go_wp2_with fail
        refine hK.out _ _ (sp_of x_6 y_6 z_6) (fun hHeld2 => ?_)
        clear hK K hHeld; have hHeld := hHeld2; clear hHeld2
        try simp only [Act.put, List.setIfInBounds_toArray, List.set_cons_zero, List.set_cons_succ]
        refine wpAnyH_take (i := 11) (oi := { dst := some 43, op := Op.binOp BinOp.eql 3 (Operand.tmp 42) (Operand.const (Value.int IntKind.i64 0)) 3, type := 4, pos := "law.go:53", after := #[{ on := 10, ground := Ground.data }, { on := 8, ground := Ground.guard }], guard := some (8, false) }) (v := ?_) rfl (by kernel_rfl) (by kernel_rfl) (by kernel_rfl) (fun _ _ _ h => h) (Or.inl ⟨by rfl, ?_⟩) hHeld ?_
        rotate_left
        · intro w hSw
          try dsimp only at hSw
          go_simp
          try with_reducible rfl
        try simp only [Act.put, List.setIfInBounds_toArray, List.set_cons_zero, List.set_cons_succ]
        refine wpAnyH_take (i := 12) (oi := { dst := some 44, op := Op.pick (Operand.tmp 40) (Operand.const (Value.bool true)) (Operand.tmp 43), type := 4, pos := "law.go:53", after := #[{ on := 8, ground := Ground.data }, { on := 11, ground := Ground.data }], guard := none }) (v := ?_) rfl (by kernel_rfl) (by kernel_rfl) (by kernel_rfl) (fun _ _ _ h => h) (Or.inl ⟨by rfl, ?_⟩) hHeld ?_
        rotate_left
        · intro w hSw
          try dsimp only at hSw
          go_simp
          try with_reducible rfl
        try simp only [Act.put, List.setIfInBounds_toArray, List.set_cons_zero, List.set_cons_succ]
        refine wpAnyH_done (by kernel_rfl) ?_ _
        clear hHeld
        rcases hr with rfl | ⟨rfl, hsos⟩
        · go_wp2_with fail
          go_meet
          exact ⟨true, rfl, fun q => (by cases q), iv_6, x_6, y_6, z_6⟩
        · go_wp2_with fail
          go_meet
          exact ⟨false, rfl, fun _ => hsos, iv_6, x_6, y_6, z_6⟩
      · skip
        go_simp
        have q_7 := blk_at ((W0.drew).alloc (.cells (#[] : Array Value) 67)) 67 m.C (sz1 W0.drew _ rfl)
        have own_7 := own_1.alloc (.cells m.C 67)
        have iv_7 := iv_1.alloc (.cells m.C 67)
        have x_7 := x_1.alloc (.cells m.C 67)
        have y_7 := y_1.alloc (.cells m.C 67)
        have z_7 := z_1.alloc (.cells m.C 67)
        have sz_7 : W0.drew.heap.size ≤ (((W0.drew).alloc (.cells (#[] : Array Value) 67)).alloc (.cells m.C 67)).heap.size := by rw [sz1 _ _ rfl]; exact Nat.le_succ_of_le sz_1
        refine hK.out _ _ (sp_of x_7 y_7 z_7) (fun hHeld2 => ?_)
        clear hK K hHeld; have hHeld := hHeld2; clear hHeld2
        try simp only [Act.put, List.setIfInBounds_toArray, List.set_cons_zero, List.set_cons_succ]
        refine wpAnyH_ready (rs := [2]) (by kernel_rfl) (by simp) ?_
        refine AllReadyH.cons (o := { dst := some 34, op := Op.call { callee := Callee.builtin Builtin.append, args := #[Operand.tmp 32, Operand.tmp 33], argTypes := #[51, 51] }, type := 51, pos := "law.go:53", after := #[{ on := 0, ground := Ground.data }, { on := 1, ground := Ground.data }], guard := none }) rfl (fun K hK => ?_) (AllReadyH.nil)
        refine wp_append_any _ (.tmp 32) (.tmp 33) 51 rfl W0.drew.heap.size 67 i0i _ 4 48 Try.underlying51 HI.out hz0 hz1 hz2 rfl (by decide) _ 0 _ rfl own_7 _ _ n c (flatC L) rfl (hR.below iv_7.b).r (flatC_one L) (by unfold maxLen; omega) (by omega) sz_7 ?_
        intro v_8 W_8 own_8 hg_8 hat_8
        have iv_8 : BI w W_8 := Below.grown iv_7.b hg_8 iv_7.b.size (fun g hg => Nat.le_trans iv0.b.size (own_7.lt g hg).1)
        have x_8 := x_7.grown hg_8 (fun e => by have q1 := (own_7.lt _ e.symm).1; have q2 := x0.lt; omega)
        have y_8 := y_7.grown hg_8 (fun e => by have q1 := (own_7.lt _ e.symm).1; have q2 := y0.lt; omega)
        have z_8 := z_7.grown hg_8 (fun e => by have q1 := (own_7.lt _ e.symm).1; have q2 := z0.lt; omega)
        have q_8 := q_7.grown hg_8 (fun e => by first | (have e2 : some (W0.drew.heap.size + 1) = some W0.drew.heap.size := e; injection e2; omega) | (have e2 : some W0.drew.heap.size = some (W0.drew.heap.size + 1) := e; injection e2; omega))
        have sz_8 : W0.drew.heap.size ≤ W_8.heap.size := Nat.le_trans sz_7 hg_8.size
        refine hK.out _ _ (sp_of x_8 y_8 z_8) (fun hHeld2 => ?_)
        clear hK K hHeld; have hHeld := hHeld2; clear hHeld2
        try simp only [Act.put, List.setIfInBounds_toArray, List.set_cons_zero, List.set_cons_succ]
        refine wpAnyH_ready (rs := [5]) (by kernel_rfl) (by simp) ?_
        refine AllReadyH.cons (o := { dst := some 37, op := Op.call { callee := Callee.builtin Builtin.append, args := #[Operand.tmp 34, Operand.tmp 36], argTypes := #[51, 51] }, type := 51, pos := "law.go:53", after := #[{ on := 2, ground := Ground.data }, { on := 4, ground := Ground.data }, { on := 2, ground := Ground.chain }], guard := none }) rfl (fun K hK => ?_) (AllReadyH.nil)
        refine wp_append_any _ (.tmp 34) (.tmp 36) 51 rfl W0.drew.heap.size 67 i0i _ 4 48 Try.underlying51 HI.out hz0 hz1 hz2 rfl (by decide) _ (0 + n) _ rfl own_8 _ _ 1 1 (flatC [m]) rfl (one_readsC q_8) (flatC_one _) (by unfold maxLen; omega) (by omega) sz_8 ?_
        intro v_9 W_9 own_9 hg_9 hat_9
        have iv_9 : BI w W_9 := Below.grown iv_8.b hg_9 iv_8.b.size (fun g hg => Nat.le_trans iv0.b.size (own_8.lt g hg).1)
        have x_9 := x_8.grown hg_9 (fun e => by have q1 := (own_8.lt _ e.symm).1; have q2 := x0.lt; omega)
        have y_9 := y_8.grown hg_9 (fun e => by have q1 := (own_8.lt _ e.symm).1; have q2 := y0.lt; omega)
        have z_9 := z_8.grown hg_9 (fun e => by have q1 := (own_8.lt _ e.symm).1; have q2 := z0.lt; omega)
        have sz_9 : W0.drew.heap.size ≤ W_9.heap.size := Nat.le_trans sz_8 hg_9.size
        rw [List.nil_append, ← flatC_app, Nat.zero_add] at own_9
        obtain ⟨g9, c9, e9, hc9⟩ := own_formP own_9 (by omega)
        subst e9
        refine hK.out _ _ (sp_of x_9 y_9 z_9) (fun hHeld2 => ?_)
        clear hK K hHeld; have hHeld := hHeld2; clear hHeld2
        try simp only [Act.put, List.setIfInBounds_toArray, List.set_cons_zero, List.set_cons_succ]
        refine wpAnyH_ready (rs := [6]) (by kernel_rfl) (by simp) ?_
        refine AllReadyH.cons (o := { dst := some 38, op := Op.call { callee := Callee.value (Operand.func 36), args := #[Operand.tmp 37], argTypes := #[51] }, type := 3, pos := "law.go:53", after := #[{ on := 5, ground := Ground.data }, { on := 5, ground := Ground.chain }], guard := none }) rfl (fun K hK => ?_) (AllReadyH.nil)
        go_simp
        refine (hsm _ _ _ (pcs_app rfl own_9 hR hmb iv_9)).mono ?_; rintro e w_10 ⟨rfl, hb_10⟩
        have iv_10 := iv_9.call hb_10
        have x_10 := x_9.below hb_10 x_9.lt
        have y_10 := y_9.below hb_10 y_9.lt
        have z_10 := z_9.below hb_10 z_9.lt
        try go_wp2_with fail
        refine hK.out _ _ (sp_of x_10 y_10 z_10) (fun hHeld2 => ?_)
        clear hK K hHeld; have hHeld := hHeld2; clear hHeld2
        try simp only [Act.put, List.setIfInBounds_toArray, List.set_cons_zero, List.set_cons_succ]
        refine wpAnyH_take (i := 7) (oi := { dst := some 39, op := Op.binOp BinOp.eql 3 (Operand.tmp 38) (Operand.const (Value.int IntKind.i64 0)) 3, type := 4, pos := "law.go:53", after := #[{ on := 6, ground := Ground.data }], guard := none }) (v := ?_) rfl (by kernel_rfl) (by kernel_rfl) (by kernel_rfl) (fun _ _ _ h => h) (Or.inl ⟨by rfl, ?_⟩) hHeld ?_
        rotate_left
        · intro w hSw
          try dsimp only at hSw
          go_simp
          try with_reducible rfl
        try simp only [Act.put, List.setIfInBounds_toArray, List.set_cons_zero, List.set_cons_succ]
        refine wpAnyH_take (i := 8) (oi := { dst := some 40, op := Op.move (Operand.tmp 39), type := 4, pos := "law.go:53", after := #[{ on := 7, ground := Ground.data }, { on := 6, ground := Ground.chain }], guard := none }) (v := ?_) rfl (by kernel_rfl) (by kernel_rfl) (by kernel_rfl) (fun _ _ _ h => h) (Or.inl ⟨by rfl, ?_⟩) hHeld ?_
        rotate_left
        · intro w hSw
          try dsimp only at hSw
          go_simp
          try with_reducible rfl
        try simp only [Act.put, List.setIfInBounds_toArray, List.set_cons_zero, List.set_cons_succ]
        refine wpAnyH_take (i := 9) (oi := { dst := some 41, op := Op.load 65 (Operand.tmp 6), type := 65, pos := "law.go:53", after := #[{ on := 8, ground := Ground.guard }], guard := some (8, false) }) (v := ?_) rfl (by kernel_rfl) (by kernel_rfl) (by kernel_rfl) (fun _ _ _ h => h) (Or.inl ⟨by rfl, ?_⟩) hHeld ?_
        rotate_left
        · intro w hSw
          try dsimp only at hSw
          go_simp
          try with_reducible rfl
        try simp only [Act.put, List.setIfInBounds_toArray, List.set_cons_zero, List.set_cons_succ]
        refine wpAnyH_ready (rs := [10]) (by kernel_rfl) (by simp) ?_
        refine AllReadyH.cons (o := { dst := some 42, op := Op.call { callee := Callee.value (Operand.func 42), args := #[Operand.tmp 41], argTypes := #[65] }, type := 3, pos := "law.go:53", after := #[{ on := 9, ground := Ground.data }, { on := 8, ground := Ground.chain }, { on := 8, ground := Ground.guard }], guard := some (8, false) }) rfl (fun K hK => ?_) (AllReadyH.nil)
        go_simp
        refine (Sr.small_any h S _ ((hS.below iv_10.b).more iv_10.b.size)).mono ?_; rintro e w_11 ⟨hc_11, hb_11⟩
        obtain ⟨r, rfl, hr⟩ : ∃ r : Int, e = .returned (.int .i64 r) ∧ (r = 0 ∨ (r = 1 ∧ Sr.SoS h S)) := hc_11.elim (fun e => ⟨0, e, .inl rfl⟩) (fun q => ⟨1, q.1, .inr ⟨rfl, q.2⟩⟩)
        have iv_11 := iv_10.call hb_11
        have x_11 := x_10.below hb_11 x_10.lt
        have y_11 := y_10.below hb_11 y_10.lt
        have z_11 := z_10.below hb_11 z_10.lt
        try go_wp2_with fail
        refine hK.out _ _ (sp_of x_11 y_11 z_11) (fun hHeld2 => ?_)
        clear hK K hHeld; have hHeld := hHeld2; clear hHeld2
        try simp only [Act.put, List.setIfInBounds_toArray, List.set_cons_zero, List.set_cons_succ]
        refine wpAnyH_take (i := 11) (oi := { dst := some 43, op := Op.binOp BinOp.eql 3 (Operand.tmp 42) (Operand.const (Value.int IntKind.i64 0)) 3, type := 4, pos := "law.go:53", after := #[{ on := 10, ground := Ground.data }, { on := 8, ground := Ground.guard }], guard := some (8, false) }) (v := ?_) rfl (by kernel_rfl) (by kernel_rfl) (by kernel_rfl) (fun _ _ _ h => h) (Or.inl ⟨by rfl, ?_⟩) hHeld ?_
        rotate_left
        · intro w hSw
          try dsimp only at hSw
          go_simp
          try with_reducible rfl
        try simp only [Act.put, List.setIfInBounds_toArray, List.set_cons_zero, List.set_cons_succ]
        refine wpAnyH_take (i := 12) (oi := { dst := some 44, op := Op.pick (Operand.tmp 40) (Operand.const (Value.bool true)) (Operand.tmp 43), type := 4, pos := "law.go:53", after := #[{ on := 8, ground := Ground.data }, { on := 11, ground := Ground.data }], guard := none }) (v := ?_) rfl (by kernel_rfl) (by kernel_rfl) (by kernel_rfl) (fun _ _ _ h => h) (Or.inl ⟨by rfl, ?_⟩) hHeld ?_
        rotate_left
        · intro w hSw
          try dsimp only at hSw
          go_simp
          try with_reducible rfl
        try simp only [Act.put, List.setIfInBounds_toArray, List.set_cons_zero, List.set_cons_succ]
        refine wpAnyH_done (by kernel_rfl) ?_ _
        clear hHeld
        rcases hr with rfl | ⟨rfl, hsos⟩
        · go_wp2_with fail
          go_meet
          exact ⟨true, rfl, fun q => (by cases q), iv_11, x_11, y_11, z_11⟩
        · go_wp2_with fail
          go_meet
          exact ⟨false, rfl, fun _ => hsos, iv_11, x_11, y_11, z_11⟩
    · skip
      go_simp
      have q_12 := Blk.new (W0.drew) 67 m.C
      have iv_12 := iv0.alloc (.cells m.C 67)
      have x_12 := x0.alloc (.cells m.C 67)
      have y_12 := y0.alloc (.cells m.C 67)
      have z_12 := z0.alloc (.cells m.C 67)
      have sz_12 : W0.drew.heap.size ≤ ((W0.drew).alloc (.cells m.C 67)).heap.size := by rw [sz1 _ _ rfl]; exact Nat.le_succ_of_le (Nat.le_refl W0.drew.heap.size)
      refine hK.out _ _ (sp_of x_12 y_12 z_12) (fun hHeld2 => ?_)
      clear hK K hHeld; have hHeld := hHeld2; clear hHeld2
      try simp only [Act.put, List.setIfInBounds_toArray, List.set_cons_zero, List.set_cons_succ]
      refine wpAnyH_ready (rs := [0]) (by kernel_rfl) (by simp) ?_
      refine AllReadyH.cons (o := { dst := some 32, op := Op.buildSlice 51 0 #[], type := 51, pos := "law.go:53", after := #[], guard := none }) rfl (fun K hK => ?_) (AllReadyH.nil)
      go_simp
      have own_13 := own_xP (base := W0.drew.heap.size) ((W0.drew).alloc (.cells m.C 67)) sz_12
      rw [sz1 W0.drew _ rfl] at own_13
      have q_13 := q_12.alloc (.cells (#[] : Array Value) 67)
      have iv_13 := iv_12.alloc (.cells (#[] : Array Value) 67)
      have x_13 := x_12.alloc (.cells (#[] : Array Value) 67)
      have y_13 := y_12.alloc (.cells (#[] : Array Value) 67)
      have z_13 := z_12.alloc (.cells (#[] : Array Value) 67)
      have sz_13 : W0.drew.heap.size ≤ (((W0.drew).alloc (.cells m.C 67)).alloc (.cells (#[] : Array Value) 67)).heap.size := by rw [sz1 _ _ rfl]; exact Nat.le_succ_of_le sz_12
      refine hK.out _ _ (sp_of x_13 y_13 z_13) (fun hHeld2 => ?_)
      clear hK K hHeld; have hHeld := hHeld2; clear hHeld2
      try simp only [Act.put, List.setIfInBounds_toArray, List.set_cons_zero, List.set_cons_succ]
      refine wpAnyH_ready (rs := [2]) (by kernel_rfl) (by simp) ?_
      refine AllReadyH.cons (o := { dst := some 34, op := Op.call { callee := Callee.builtin Builtin.append, args := #[Operand.tmp 32, Operand.tmp 33], argTypes := #[51, 51] }, type := 51, pos := "law.go:53", after := #[{ on := 0, ground := Ground.data }, { on := 1, ground := Ground.data }], guard := none }) rfl (fun K hK => ?_) (AllReadyH.nil)
      refine wp_append_any _ (.tmp 32) (.tmp 33) 51 rfl W0.drew.heap.size 67 i0i _ 4 48 Try.underlying51 HI.out hz0 hz1 hz2 rfl (by decide) _ 0 _ rfl own_13 _ _ n c (flatC L) rfl (hR.below iv_13.b).r (flatC_one L) (by unfold maxLen; omega) (by omega) sz_13 ?_
      intro v_14 W_14 own_14 hg_14 hat_14
      have iv_14 : BI w W_14 := Below.grown iv_13.b hg_14 iv_13.b.size (fun g hg => Nat.le_trans iv0.b.size (own_13.lt g hg).1)
      have x_14 := x_13.grown hg_14 (fun e => by have q1 := (own_13.lt _ e.symm).1; have q2 := x0.lt; omega)
      have y_14 := y_13.grown hg_14 (fun e => by have q1 := (own_13.lt _ e.symm).1; have q2 := y0.lt; omega)
      have z_14 := z_13.grown hg_14 (fun e => by have q1 := (own_13.lt _ e.symm).1; have q2 := z0.lt; omega)
      have q_14 := q_13.grown hg_14 (fun e => by first | (have e2 : some (W0.drew.heap.size + 1) = some W0.drew.heap.size := e; injection e2; omega) | (have e2 : some W0.drew.heap.size = some (W0.drew.heap.size + 1) := e; injection e2; omega))
      have sz_14 : W0.drew.heap.size ≤ W_14.heap.size := Nat.le_trans sz_13 hg_14.size
      refine hK.out _ _ (sp_of x_14 y_14 z_14) (fun hHeld2 => ?_)
      clear hK K hHeld; have hHeld := hHeld2; clear hHeld2
      try simp only [Act.put, List.setIfInBounds_toArray, List.set_cons_zero, List.set_cons_succ]
      refine wpAnyH_ready (rs := [5]) (by kernel_rfl) (by simp) ?_
      refine AllReadyH.cons (o := { dst := some 37, op := Op.call { callee := Callee.builtin Builtin.append, args := #[Operand.tmp 34, Operand.tmp 36], argTypes := #[51, 51] }, type := 51, pos := "law.go:53", after := #[{ on := 2, ground := Ground.data }, { on := 4, ground := Ground.data }, { on := 2, ground := Ground.chain }], guard := none }) rfl (fun K hK => ?_) (AllReadyH.nil)
      refine wp_append_any _ (.tmp 34) (.tmp 36) 51 rfl W0.drew.heap.size 67 i0i _ 4 48 Try.underlying51 HI.out hz0 hz1 hz2 rfl (by decide) _ (0 + n) _ rfl own_14 _ _ 1 1 (flatC [m]) rfl (one_readsC q_14) (flatC_one _) (by unfold maxLen; omega) (by omega) sz_14 ?_
      intro v_15 W_15 own_15 hg_15 hat_15
      have iv_15 : BI w W_15 := Below.grown iv_14.b hg_15 iv_14.b.size (fun g hg => Nat.le_trans iv0.b.size (own_14.lt g hg).1)
      have x_15 := x_14.grown hg_15 (fun e => by have q1 := (own_14.lt _ e.symm).1; have q2 := x0.lt; omega)
      have y_15 := y_14.grown hg_15 (fun e => by have q1 := (own_14.lt _ e.symm).1; have q2 := y0.lt; omega)
      have z_15 := z_14.grown hg_15 (fun e => by have q1 := (own_14.lt _ e.symm).1; have q2 := z0.lt; omega)
      have sz_15 : W0.drew.heap.size ≤ W_15.heap.size := Nat.le_trans sz_14 hg_15.size
      rw [List.nil_append, ← flatC_app, Nat.zero_add] at own_15
      obtain ⟨g9, c9, e9, hc9⟩ := own_formP own_15 (by omega)
      subst e9
      refine hK.out _ _ (sp_of x_15 y_15 z_15) (fun hHeld2 => ?_)
      clear hK K hHeld; have hHeld := hHeld2; clear hHeld2
      try simp only [Act.put, List.setIfInBounds_toArray, List.set_cons_zero, List.set_cons_succ]
      refine wpAnyH_ready (rs := [6]) (by kernel_rfl) (by simp) ?_
      refine AllReadyH.cons (o := { dst := some 38, op := Op.call { callee := Callee.value (Operand.func 36), args := #[Operand.tmp 37], argTypes := #[51] }, type := 3, pos := "law.go:53", after := #[{ on := 5, ground := Ground.data }, { on := 5, ground := Ground.chain }], guard := none }) rfl (fun K hK => ?_) (AllReadyH.nil)
      go_simp
      refine (hsm _ _ _ (pcs_app rfl own_15 hR hmb iv_15)).mono ?_; rintro e w_16 ⟨rfl, hb_16⟩
      have iv_16 := iv_15.call hb_16
      have x_16 := x_15.below hb_16 x_15.lt
      have y_16 := y_15.below hb_16 y_15.lt
      have z_16 := z_15.below hb_16 z_15.lt
      try go_wp2_with fail
      refine hK.out _ _ (sp_of x_16 y_16 z_16) (fun hHeld2 => ?_)
      clear hK K hHeld; have hHeld := hHeld2; clear hHeld2
      try simp only [Act.put, List.setIfInBounds_toArray, List.set_cons_zero, List.set_cons_succ]
      refine wpAnyH_take (i := 7) (oi := { dst := some 39, op := Op.binOp BinOp.eql 3 (Operand.tmp 38) (Operand.const (Value.int IntKind.i64 0)) 3, type := 4, pos := "law.go:53", after := #[{ on := 6, ground := Ground.data }], guard := none }) (v := ?_) rfl (by kernel_rfl) (by kernel_rfl) (by kernel_rfl) (fun _ _ _ h => h) (Or.inl ⟨by rfl, ?_⟩) hHeld ?_
      rotate_left
      · intro w hSw
        try dsimp only at hSw
        go_simp
        try with_reducible rfl
      try simp only [Act.put, List.setIfInBounds_toArray, List.set_cons_zero, List.set_cons_succ]
      refine wpAnyH_take (i := 8) (oi := { dst := some 40, op := Op.move (Operand.tmp 39), type := 4, pos := "law.go:53", after := #[{ on := 7, ground := Ground.data }, { on := 6, ground := Ground.chain }], guard := none }) (v := ?_) rfl (by kernel_rfl) (by kernel_rfl) (by kernel_rfl) (fun _ _ _ h => h) (Or.inl ⟨by rfl, ?_⟩) hHeld ?_
      rotate_left
      · intro w hSw
        try dsimp only at hSw
        go_simp
        try with_reducible rfl
      try simp only [Act.put, List.setIfInBounds_toArray, List.set_cons_zero, List.set_cons_succ]
      refine wpAnyH_take (i := 9) (oi := { dst := some 41, op := Op.load 65 (Operand.tmp 6), type := 65, pos := "law.go:53", after := #[{ on := 8, ground := Ground.guard }], guard := some (8, false) }) (v := ?_) rfl (by kernel_rfl) (by kernel_rfl) (by kernel_rfl) (fun _ _ _ h => h) (Or.inl ⟨by rfl, ?_⟩) hHeld ?_
      rotate_left
      · intro w hSw
        try dsimp only at hSw
        go_simp
        try with_reducible rfl
      try simp only [Act.put, List.setIfInBounds_toArray, List.set_cons_zero, List.set_cons_succ]
      refine wpAnyH_ready (rs := [10]) (by kernel_rfl) (by simp) ?_
      refine AllReadyH.cons (o := { dst := some 42, op := Op.call { callee := Callee.value (Operand.func 42), args := #[Operand.tmp 41], argTypes := #[65] }, type := 3, pos := "law.go:53", after := #[{ on := 9, ground := Ground.data }, { on := 8, ground := Ground.chain }, { on := 8, ground := Ground.guard }], guard := some (8, false) }) rfl (fun K hK => ?_) (AllReadyH.nil)
      go_simp
      refine (Sr.small_any h S _ ((hS.below iv_16.b).more iv_16.b.size)).mono ?_; rintro e w_17 ⟨hc_17, hb_17⟩
      obtain ⟨r, rfl, hr⟩ : ∃ r : Int, e = .returned (.int .i64 r) ∧ (r = 0 ∨ (r = 1 ∧ Sr.SoS h S)) := hc_17.elim (fun e => ⟨0, e, .inl rfl⟩) (fun q => ⟨1, q.1, .inr ⟨rfl, q.2⟩⟩)
      have iv_17 := iv_16.call hb_17
      have x_17 := x_16.below hb_17 x_16.lt
      have y_17 := y_16.below hb_17 y_16.lt
      have z_17 := z_16.below hb_17 z_16.lt
      try go_wp2_with fail
      refine hK.out _ _ (sp_of x_17 y_17 z_17) (fun hHeld2 => ?_)
      clear hK K hHeld; have hHeld := hHeld2; clear hHeld2
      try simp only [Act.put, List.setIfInBounds_toArray, List.set_cons_zero, List.set_cons_succ]
      refine wpAnyH_take (i := 11) (oi := { dst := some 43, op := Op.binOp BinOp.eql 3 (Operand.tmp 42) (Operand.const (Value.int IntKind.i64 0)) 3, type := 4, pos := "law.go:53", after := #[{ on := 10, ground := Ground.data }, { on := 8, ground := Ground.guard }], guard := some (8, false) }) (v := ?_) rfl (by kernel_rfl) (by kernel_rfl) (by kernel_rfl) (fun _ _ _ h => h) (Or.inl ⟨by rfl, ?_⟩) hHeld ?_
      rotate_left
      · intro w hSw
        try dsimp only at hSw
        go_simp
        try with_reducible rfl
      try simp only [Act.put, List.setIfInBounds_toArray, List.set_cons_zero, List.set_cons_succ]
      refine wpAnyH_take (i := 12) (oi := { dst := some 44, op := Op.pick (Operand.tmp 40) (Operand.const (Value.bool true)) (Operand.tmp 43), type := 4, pos := "law.go:53", after := #[{ on := 8, ground := Ground.data }, { on := 11, ground := Ground.data }], guard := none }) (v := ?_) rfl (by kernel_rfl) (by kernel_rfl) (by kernel_rfl) (fun _ _ _ h => h) (Or.inl ⟨by rfl, ?_⟩) hHeld ?_
      rotate_left
      · intro w hSw
        try dsimp only at hSw
        go_simp
        try with_reducible rfl
      try simp only [Act.put, List.setIfInBounds_toArray, List.set_cons_zero, List.set_cons_succ]
      refine wpAnyH_done (by kernel_rfl) ?_ _
      clear hHeld
      rcases hr with rfl | ⟨rfl, hsos⟩
      · go_wp2_with fail
        go_meet
        exact ⟨true, rfl, fun q => (by cases q), iv_17, x_17, y_17, z_17⟩
      · go_wp2_with fail
        go_meet
        exact ⟨false, rfl, fun _ => hsos, iv_17, x_17, y_17, z_17⟩
  case rest =>
  clear x0 y0 z0 iv0 hsm
  obtain ⟨b, rfl, hsz, i3, x3, y3, z3⟩ := hcut
  obtain ⟨W3, rfl⟩ : ∃ W : World, W = wc := ⟨_, rfl⟩
  cases b with
  | true =>
    go_wp2_with fail
    go_ret
    exact ⟨rfl, i3⟩
  | false =>
  have hsos := hsz rfl
  clear hsz
  have hzl := hsos.zn; have hll2 := hsos.ln
  clear hsos
  by_cases hnc : ncE L p = 0
  rotate_left
  · have ho := order_no A n c L p W3 ((hR.below i3.b).more i3.b.size) hm hnc
    have hv : (ncE L p != 0) = true := by simp [hnc]
    have HNC := Lib.hid (fun (q : pcE L = 0) => (show chkV p ≠ 0 from fun e => hnc (by unfold ncE; rw [if_pos q]; exact e)))
    clear hnc
    generalize ncE L p = E at *
    go_wp2_with (refine wpList_row_g rfl 23 _ rfl _ rfl _ _ _ _ y3 Try.underlying23 rfl (by kernel_rfl) ?_)
    refine ho.mono ?_; rintro e w4 ⟨rfl, hb⟩
    have i4 := i3.call hb; have y4 := y3.below hb y3.lt
    clear i3 x3 y3 z3 hb ho
    have hpc := pcheck_any A n c L w4 ((hR.below i4.b).more i4.b.size) hm
    go_wp2_with fail
    refine hpc.mono ?_; rintro e w5 ⟨rfl, hb⟩
    have i5 := i4.call hb; have y5 := y4.below hb y4.lt
    clear i4 y4 hb hpc
    by_cases hE : pcE L = 0
    · have hc := HNC.out hE
      have hv1 : (pcE L != 0) = false := by simp [hE]
      have hv2 : (chkV p != 0) = true := by simp [hc]
      have hck := check_any p w5
      clear HNC hE hc
      generalize pcE L = E1 at *
      generalize chkV p = E2 at *
      go_wp2_with (refine wpList_row_g rfl 23 _ rfl _ rfl _ _ _ _ y5 Try.underlying23 rfl (by kernel_rfl) ?_)
      refine hck.mono ?_; rintro e w6 ⟨rfl, hb⟩
      have i6 := i5.call hb
      clear hck hb
      go_wp2_with fail
      go_ret
      exact ⟨rfl, i6⟩
    · have hv1 : (pcE L != 0) = true := by simp [hE]
      clear HNC hE
      generalize pcE L = E1 at *
      go_wp2_with fail
      go_ret
      exact ⟨rfl, i5⟩
  have hor := order_ok A n c L p W3 ((hR.below i3.b).more i3.b.size) hm hnc _ (sort_any (far_ L p) n (by omega))
  have horl := fun j (hj : j < n) => ord_lt (far_ L p) hj
  obtain ⟨ord, hord⟩ : ∃ o, ordF (far_ L p) n = o := ⟨_, rfl⟩
  rw [hord] at hor
  simp only [hord] at horl
  have HORL := Lib.hid horl; have HORD := Lib.hid hord; have HNC := Lib.hid hnc
  clear horl hord hnc
  have mk1 := fun w => run_make_row' (P := Try.prog) 72 4 (.bool false) 1 (by kernel_rfl) bool_info rfl .i64 .i64 n (by omega) (by omega) w
  go_wp2_with (refine wpList_row_g rfl 23 _ rfl _ rfl _ _ _ _ y3 Try.underlying23 rfl (by kernel_rfl) ?_)
  refine hor.mono ?_; rintro e w4 ⟨g, rfl, hb, rg⟩
  have i4 := i3.call hb; have x4 := x3.below hb x3.lt; have y4 := y3.below hb y3.lt; have z4 := z3.below hb z3.lt
  clear i3 x3 y3 z3 hb hor
  have rs0 := World.rowIs_made w4 (.bool false) n 4
  obtain ⟨gs, hgs⟩ : ∃ q, w4.heap.size = q := ⟨_, rfl⟩
  have hgg : g ≠ gs := by have := rg.lt; omega
  have hg0 : w.heap.size ≠ gs := by have := x4.lt; omega
  have hg1 : gp ≠ gs := by have := y4.lt; omega
  have hg2 : gm ≠ gs := by have := z4.lt; omega
  have hg3 : w.heap.size ≤ gs := by have := i4.b.size; omega
  replace i4 := i4.alloc (.cells (madeCells #[.bool false] n) 4); replace x4 := x4.alloc (.cells (madeCells #[.bool false] n) 4); replace y4 := y4.alloc (.cells (madeCells #[.bool false] n) 4); replace z4 := z4.alloc (.cells (madeCells #[.bool false] n) 4)
  replace rg := rg.alloc (.cells (madeCells #[.bool false] n) 4)
  go_upto_region 11 with fail
  rw [hgs] at rs0
  generalize w4.alloc (.cells (madeCells #[.bool false] n) 4) = W4 at *
  try rw [hgs]
  clear hgs mk1
  go_upto_region 12 with fail
  go_cut [15] (fun v wx => v = .int .i64 0 ∧ wx = W4)
  case first =>
    go_wp2_with fail
    go_meet
    exact ⟨rfl, rfl⟩
  case rest =>
    obtain ⟨rfl, rfl⟩ := hcut
    go_step
    exact none_b hR hby hS hmb hn60 hzl hll2 hgp hgm HNC HORD HORL hgg hg0 hg1 hg2 hg3 i4 x4 y4 z4 rg rs0
theorem none_any (A : Option Addr) (n c : Nat) (L : List Pc) (h : Hd) (S : Sr.So) (p : P2) (m : Pc) (d : Int) (w : World) (hR : Pcs w w.heap.size A n L) (hby : n * 48 ≤ 140737488351232) (hS : SoR w w.heap.size h S) (hmb : m.t.size ≤ maxLen ∧ m.z.size ≤ maxLen) :
    Calls Try.prog 10 #[.slice A n c, h.V, p.V, m.V, .int .i64 d] w fun e w' => e = .returned (.bool true) ∧ Below w.heap.size w w' := by
  cases hs : fwB (L ++ [m]) with
  | false => exact none_many A n c L h S p m d w hR hby hS hmb hs
  | true => exact none_main A n c L h S p m d w hR hby hS hmb hs
end Go.Proofs.Ytoiccljmdplfgaa.Nr
