/-
  LINKS: the finder of a source (link.of): walked.
-/
import Derived.Test.YtnoaeejdcdeanaaDoorLk1
import Derived.Deep.RegionHeld3
import Derived.BigQuiet
namespace Go.Proofs.YtnoaeejdcdeanaaDoor.Lk
open Go.ChangeShapes Go.WideShapes Go.ChangeAt Go.RowKit Go.Shelf
open Go.Proofs.YtnoaeejdcdeanaaDoor
open Go.Proofs.YtnoaeejdcdeanaaDoor.Wd
open Go.Proofs.YtnoaeejdcdeanaaDoor.Sl
open Go.Proofs.YtnoaeejdcdeanaaDoor.Sr
open Go.Proofs.YtnoaeejdcdeanaaDoor.Mp (Smap mput)
set_option linter.unusedVariables false
abbrev fdV (f : Fd) : Value := .agg #[.int .i64 f.p, .int .i64 f.e]
def fdM (K : Key → Option Fd) : Key → Option Value := fun s => (K s).map fdV
/-- a finder of a source, and what it knows -/
structure Fin (W : World) (B p b1 b2 b3 : Nat) (h : Hd) (S : So) (n : Nat) (K : Key → Option Fd) : Prop where
  f : Blk W p 91 #[.slice h.lA h.ln h.lc, .map (some b1), .map (some b2), .map (some b3)]
  z : Smap W Tryd.prog 9 b1 h.zn (plM (znames S))
  l : Smap W Tryd.prog 9 b2 h.ln (plM (lnames S))
  k : Smap W Tryd.prog 9 b3 n (fdM K)
  ge : B ≤ p ∧ B ≤ b1 ∧ B ≤ b2 ∧ B ≤ b3
  ne : b3 ≠ b1 ∧ b3 ≠ b2
theorem places_z (Bs B : Nat) (h : Hd) (S : So) (W : World) (x : Blk W Bs 26 h.C) (hS : SoR W B h S) (hB : B ≤ W.heap.size) (hn : h.zn ≤ 1000000) :
    Calls Tryd.prog 32 #[.int .i64 (h.zn : Int), fnV 33 Bs] W fun e W' => ∃ b, e = .returned (.map (some b)) ∧ W.heap.size ≤ b ∧ Smap W' Tryd.prog 9 b h.zn (plM (znames S)) ∧ Below W.heap.size W W' := by
  have hl := hS.z.len
  refine places_any h.zn 33 Bs (fun k => (zn_ S.zs k).nm) (znames S) W hn (by unfold znames; rw [List.length_map, hl]) (fun k hk => ?_) (enters_of Tryd.func33 (by kernel_rfl) rfl) (fun k => ?_) (fun W' hb k hk => zname_any Bs B h S k W' (x.below hb x.lt) (hS.below (hb.mono hB)) hk)
  · unfold znames at hk ⊢
    rw [List.length_map] at hk
    rw [List.getElem?_map, getD_at Zn.nil hk]; rfl
  · show (zn_ S.zs k).nm.size ≤ _
    by_cases hk : k < S.zs.length
    · exact (hS.zb _ (getD_mem Zn.nil hk)).1
    · rw [show zn_ S.zs k = Zn.nil by show S.zs.getD k _ = _; rw [List.getD_eq_getElem?_getD, List.getElem?_eq_none (by omega)]; rfl]; exact Nat.zero_le _
theorem places_l (Bs B : Nat) (h : Hd) (S : So) (W : World) (x : Blk W Bs 26 h.C) (hS : SoR W B h S) (hB : B ≤ W.heap.size) (hn : h.ln ≤ 1000000) :
    Calls Tryd.prog 32 #[.int .i64 (h.ln : Int), fnV 34 Bs] W fun e W' => ∃ b, e = .returned (.map (some b)) ∧ W.heap.size ≤ b ∧ Smap W' Tryd.prog 9 b h.ln (plM (lnames S)) ∧ Below W.heap.size W W' := by
  have hl := hS.l.len
  refine places_any h.ln 34 Bs (fun k => (li_ S.ls k).nm) (lnames S) W hn (by unfold lnames; rw [List.length_map, hl]) (fun k hk => ?_) (enters_of Tryd.func34 (by kernel_rfl) rfl) (fun k => ?_) (fun W' hb k hk => lname_any Bs B h S k W' (x.below hb x.lt) (hS.below (hb.mono hB)) hk)
  · unfold lnames at hk ⊢
    rw [List.length_map] at hk
    rw [List.getElem?_map, getD_at Li.nil hk]; rfl
  · show (li_ S.ls k).nm.size ≤ _
    by_cases hk : k < S.ls.length
    · exact (hS.lb _ (getD_mem Li.nil hk)).2
    · rw [show li_ S.ls k = Li.nil by show S.ls.getD k _ = _; rw [List.getD_eq_getElem?_getD, List.getElem?_eq_none (by omega)]; rfl]; exact Nat.zero_le _
theorem so_mk {w W : World} {h : Hd} (x : Blk W w.heap.size 26 h.C) : Blk W w.heap.size 26 h.C ∧ W.cell? ⟨w.heap.size, 1, none⟩ = some (.slice h.zA h.zn h.zc) ∧ W.cell? ⟨w.heap.size, 2, none⟩ = some (.slice h.lA h.ln h.lc) := ⟨x, x.cell 1, x.cell 2⟩
set_option maxRecDepth 100000 in
set_option maxHeartbeats 6400000 in
theorem of_any (h : Hd) (S : So) (w : World) (hS : SoR w w.heap.size h S) (hnz : h.zn ≤ 1000000) (hnl : h.ln ≤ 1000000) :
    Calls Tryd.prog 19 #[h.V] w fun e W' => ∃ p b1 b2 b3, e = .returned (.pointer (some ⟨p, 0, none⟩)) ∧ Fin W' w.heap.size p b1 b2 b3 h S 0 (fun _ => none) ∧ Below w.heap.size w W' := by
  have iv1 := bal (Below.refl _ w) (.cells h.C 26)
  have x1 := Blk.new w 26 h.C
  have hmm := @run_makeMap Tryd.prog
  go_enter Tryd.func19, Tryd.ntmps19
  go_upto_region 1 with fail
  obtain ⟨W0, hW0⟩ : ∃ W0 : World, W0 = w.alloc (.cells h.C 26) := ⟨_, rfl⟩
  rw [← hW0] at iv1 x1 ⊢
  clear hW0
  have iv0 : Below w.heap.size w W0.drew := iv1.drew
  have x0 : Blk W0.drew w.heap.size 26 h.C := x1
  clear iv1 x1
  refine wp_region_held_drew (S := fun w' => Blk w' w.heap.size 26 h.C ∧ w'.cell? ⟨w.heap.size, 1, none⟩ = some (.slice h.zA h.zn h.zc) ∧ w'.cell? ⟨w.heap.size, 2, none⟩ = some (.slice h.lA h.ln h.lc)) (by kernel_rfl) (so_mk x0) (fun hHeld => ?_)
  refine wpAnyH_take (i := 0) (oi := { dst := some 3, op := Op.fieldAddr 26 (Operand.tmp 1) 2, type := 0, pos := "link.go:47", after := #[], guard := none }) (v := ?_) rfl (by kernel_rfl) (by kernel_rfl) (by kernel_rfl) (fun _ _ _ h => h) (Or.inl ⟨by rfl, ?_⟩) hHeld ?_
  rotate_left
  · intro w hSw
    try dsimp only at hSw
    go_simp
    try with_reducible rfl
  try simp only [Act.put, List.setIfInBounds_toArray, List.set_cons_zero, List.set_cons_succ]
  refine wpAnyH_take (i := 1) (oi := { dst := some 4, op := Op.load 24 (Operand.tmp 3), type := 24, pos := "link.go:47", after := #[{ on := 0, ground := Ground.data }], guard := none }) (v := ?_) rfl (by kernel_rfl) (by kernel_rfl) (by kernel_rfl) (fun _ _ _ h => h) (Or.inl ⟨by rfl, ?_⟩) hHeld ?_
  rotate_left
  · intro w hSw
    try dsimp only at hSw
    go_simp
    try with_reducible rfl
  try simp only [Act.put, List.setIfInBounds_toArray, List.set_cons_zero, List.set_cons_succ]
  refine wpAnyH_take (i := 2) (oi := { dst := some 5, op := Op.fieldAddr 26 (Operand.tmp 1) 1, type := 0, pos := "link.go:47", after := #[], guard := none }) (v := ?_) rfl (by kernel_rfl) (by kernel_rfl) (by kernel_rfl) (fun _ _ _ h => h) (Or.inl ⟨by rfl, ?_⟩) hHeld ?_
  rotate_left
  · intro w hSw
    try dsimp only at hSw
    go_simp
    try with_reducible rfl
  try simp only [Act.put, List.setIfInBounds_toArray, List.set_cons_zero, List.set_cons_succ]
  refine wpAnyH_take (i := 3) (oi := { dst := some 6, op := Op.load 23 (Operand.tmp 5), type := 23, pos := "link.go:47", after := #[{ on := 2, ground := Ground.data }], guard := none }) (v := ?_) rfl (by kernel_rfl) (by kernel_rfl) (by kernel_rfl) (fun _ _ _ h => h) (Or.inl ⟨by rfl, ?_⟩) hHeld ?_
  rotate_left
  · intro w hSw
    try dsimp only at hSw
    go_simp
    try with_reducible rfl
  try simp only [Act.put, List.setIfInBounds_toArray, List.set_cons_zero, List.set_cons_succ]
  refine wpAnyH_take (i := 4) (oi := { dst := some 7, op := Op.call { callee := Callee.builtin Builtin.len, args := #[Operand.tmp 6], argTypes := #[23] }, type := 3, pos := "link.go:47", after := #[{ on := 3, ground := Ground.data }], guard := none }) (v := ?_) rfl (by kernel_rfl) (by kernel_rfl) (by kernel_rfl) (fun _ _ _ h => h) (Or.inl ⟨by rfl, ?_⟩) hHeld ?_
  rotate_left
  · intro w hSw
    try dsimp only at hSw
    go_simp
    try with_reducible rfl
  try simp only [Act.put, List.setIfInBounds_toArray, List.set_cons_zero, List.set_cons_succ]
  refine wpAnyH_take (i := 5) (oi := { dst := some 8, op := Op.makeFunc (Fn.func 33) #[] #[Operand.tmp 1], type := 88, pos := "link.go:47", after := #[], guard := none }) (v := ?_) rfl (by kernel_rfl) (by kernel_rfl) (by kernel_rfl) (fun _ _ _ h => h) (Or.inl ⟨by rfl, ?_⟩) hHeld ?_
  rotate_left
  · intro w hSw
    try dsimp only at hSw
    go_simp
    try with_reducible rfl
  try simp only [Act.put, List.setIfInBounds_toArray, List.set_cons_zero, List.set_cons_succ]
  refine wpAnyH_take (i := 7) (oi := { dst := some 10, op := Op.fieldAddr 26 (Operand.tmp 1) 2, type := 0, pos := "link.go:47", after := #[], guard := none }) (v := ?_) rfl (by kernel_rfl) (by kernel_rfl) (by kernel_rfl) (fun _ _ _ h => h) (Or.inl ⟨by rfl, ?_⟩) hHeld ?_
  rotate_left
  · intro w hSw
    try dsimp only at hSw
    go_simp
    try with_reducible rfl
  try simp only [Act.put, List.setIfInBounds_toArray, List.set_cons_zero, List.set_cons_succ]
  refine wpAnyH_take (i := 8) (oi := { dst := some 11, op := Op.load 24 (Operand.tmp 10), type := 24, pos := "link.go:47", after := #[{ on := 7, ground := Ground.data }], guard := none }) (v := ?_) rfl (by kernel_rfl) (by kernel_rfl) (by kernel_rfl) (fun _ _ _ h => h) (Or.inl ⟨by rfl, ?_⟩) hHeld ?_
  rotate_left
  · intro w hSw
    try dsimp only at hSw
    go_simp
    try with_reducible rfl
  try simp only [Act.put, List.setIfInBounds_toArray, List.set_cons_zero, List.set_cons_succ]
  refine wpAnyH_take (i := 9) (oi := { dst := some 12, op := Op.call { callee := Callee.builtin Builtin.len, args := #[Operand.tmp 11], argTypes := #[24] }, type := 3, pos := "link.go:47", after := #[{ on := 8, ground := Ground.data }], guard := none }) (v := ?_) rfl (by kernel_rfl) (by kernel_rfl) (by kernel_rfl) (fun _ _ _ h => h) (Or.inl ⟨by rfl, ?_⟩) hHeld ?_
  rotate_left
  · intro w hSw
    try dsimp only at hSw
    go_simp
    try with_reducible rfl
  try simp only [Act.put, List.setIfInBounds_toArray, List.set_cons_zero, List.set_cons_succ]
  refine wpAnyH_take (i := 10) (oi := { dst := some 13, op := Op.makeFunc (Fn.func 34) #[] #[Operand.tmp 1], type := 88, pos := "link.go:47", after := #[], guard := none }) (v := ?_) rfl (by kernel_rfl) (by kernel_rfl) (by kernel_rfl) (fun _ _ _ h => h) (Or.inl ⟨by rfl, ?_⟩) hHeld ?_
  rotate_left
  · intro w hSw
    try dsimp only at hSw
    go_simp
    try with_reducible rfl
  try simp only [Act.put, List.setIfInBounds_toArray, List.set_cons_zero, List.set_cons_succ]
  refine wpAnyH_ready (rs := [6, 12]) (by kernel_rfl) (by simp) ?_
  refine AllReadyH.cons (o := { dst := some 9, op := Op.call { callee := Callee.value (Operand.func 32), args := #[Operand.tmp 7, Operand.tmp 8], argTypes := #[3, 88] }, type := 79, pos := "link.go:49", after := #[{ on := 4, ground := Ground.data }, { on := 5, ground := Ground.data }], guard := none }) rfl (fun K hK => ?_) (AllReadyH.cons (o := { dst := some 15, op := Op.makeMap 89 none, type := 89, pos := "link.go:47", after := #[], guard := none }) rfl (fun K hK => ?_) (AllReadyH.nil))
  · skip
    go_simp
    refine (places_z w.heap.size w.heap.size h S _ x0 (hS.below iv0) iv0.size hnz).mono ?_; rintro e w_1 ⟨b_1, rfl, hg_1, hm_1, hb_1⟩
    try go_wp2_with fail
    have iv_1 := iv0.trans (hb_1.mono iv0.size); have x_1 := x0.below hb_1 x0.lt
    have ge_1 : w.heap.size ≤ b_1 := Nat.le_trans iv0.size hg_1
    refine hK.out _ _ (so_mk x_1) (fun hHeld2 => ?_)
    clear hK K hHeld; have hHeld := hHeld2; clear hHeld2
    try simp only [Act.put, List.setIfInBounds_toArray, List.set_cons_zero, List.set_cons_succ]
    refine wpAnyH_ready (rs := [11, 12]) (by kernel_rfl) (by simp) ?_
    refine AllReadyH.cons (o := { dst := some 14, op := Op.call { callee := Callee.value (Operand.func 32), args := #[Operand.tmp 12, Operand.tmp 13], argTypes := #[3, 88] }, type := 79, pos := "link.go:50", after := #[{ on := 9, ground := Ground.data }, { on := 10, ground := Ground.data }, { on := 6, ground := Ground.chain }], guard := none }) rfl (fun K hK => ?_) (AllReadyH.cons (o := { dst := some 15, op := Op.makeMap 89 none, type := 89, pos := "link.go:47", after := #[], guard := none }) rfl (fun K hK => ?_) (AllReadyH.nil))
    · skip
      go_simp
      refine (places_l w.heap.size w.heap.size h S _ x_1 (hS.below iv_1) iv_1.size hnl).mono ?_; rintro e w_2 ⟨b_2, rfl, hg_2, hm_2, hb_2⟩
      try go_wp2_with fail
      have iv_2 := iv_1.trans (hb_2.mono iv_1.size); have x_2 := x_1.below hb_2 x_1.lt
      have z_2 := hm_1.below hb_2 hm_1.lt
      have ge_2 : w.heap.size ≤ b_2 := Nat.le_trans iv_1.size hg_2
      refine hK.out _ _ (so_mk x_2) (fun hHeld2 => ?_)
      clear hK K hHeld; have hHeld := hHeld2; clear hHeld2
      try simp only [Act.put, List.setIfInBounds_toArray, List.set_cons_zero, List.set_cons_succ]
      refine wpAnyH_ready (rs := [12]) (by kernel_rfl) (by simp) ?_
      refine AllReadyH.cons (o := { dst := some 15, op := Op.makeMap 89 none, type := 89, pos := "link.go:47", after := #[], guard := none }) rfl (fun K hK => ?_) (AllReadyH.nil)
      go_simp
      have iv_3 := bal iv_2 (.map #[] 0); have x_3 := x_2.alloc (.map #[] 0)
      have nz_3 : (w_2).heap.size ≠ b_1 := by have := z_2.lt; omega
      have nl_3 : (w_2).heap.size ≠ b_2 := by have := hm_2.lt; omega
      have z_3 := z_2.alloc (.map #[] 0)
      have l_3 := hm_2.alloc (.map #[] 0)
      have k_3 := Smap.made (w_2) Tryd.prog 9
      have gk_3 : w.heap.size ≤ (w_2).heap.size := iv_2.size
      refine hK.out _ _ (so_mk x_3) (fun hHeld2 => ?_)
      clear hK K hHeld; have hHeld := hHeld2; clear hHeld2
      try simp only [Act.put, List.setIfInBounds_toArray, List.set_cons_zero, List.set_cons_succ]
      refine wpAnyH_take (i := 13) (oi := { dst := some 16, op := Op.build 91 #[(0, Operand.tmp 4), (1, Operand.tmp 9), (2, Operand.tmp 14), (3, Operand.tmp 15)], type := 91, pos := "link.go:47", after := #[{ on := 1, ground := Ground.data }, { on := 6, ground := Ground.data }, { on := 11, ground := Ground.data }, { on := 12, ground := Ground.data }], guard := none }) (v := ?_) rfl (by kernel_rfl) (by kernel_rfl) (by kernel_rfl) (fun _ _ _ h => h) (Or.inl ⟨by rfl, ?_⟩) hHeld ?_
      rotate_left
      · intro w hSw
        try dsimp only at hSw
        go_simp
        try with_reducible rfl
      try simp only [Act.put, List.setIfInBounds_toArray, List.set_cons_zero, List.set_cons_succ]
      refine wpAnyH_ready (rs := [14]) (by kernel_rfl) (by simp) ?_
      refine AllReadyH.cons (o := { dst := some 17, op := Op.box 91 (Operand.tmp 16), type := 68, pos := "link.go:47", after := #[{ on := 13, ground := Ground.data }], guard := none }) rfl (fun K hK => ?_) (AllReadyH.nil)
      go_simp
      have y_4 := Blk.new ((w_2).alloc (.map #[] 0)) 91 #[.slice h.lA h.ln h.lc, .map (some b_1), .map (some b_2), .map (some ((w_2).heap.size))]
      have iv_4 := bal iv_3 (.cells #[.slice h.lA h.ln h.lc, .map (some b_1), .map (some b_2), .map (some ((w_2).heap.size))] 91); have x_4 := x_3.alloc (.cells #[.slice h.lA h.ln h.lc, .map (some b_1), .map (some b_2), .map (some ((w_2).heap.size))] 91)
      have gy_4 : w.heap.size ≤ ((w_2).alloc (.map #[] 0)).heap.size := iv_3.size
      rw [show ((w_2).alloc (.map #[] 0)).heap.size = w_2.heap.size + 1 from sz1 _ _ rfl] at y_4 gy_4
      have z_4 := z_3.alloc (.cells #[.slice h.lA h.ln h.lc, .map (some b_1), .map (some b_2), .map (some ((w_2).heap.size))] 91)
      have l_4 := l_3.alloc (.cells #[.slice h.lA h.ln h.lc, .map (some b_1), .map (some b_2), .map (some ((w_2).heap.size))] 91)
      have k_4 := k_3.alloc (.cells #[.slice h.lA h.ln h.lc, .map (some b_1), .map (some b_2), .map (some ((w_2).heap.size))] 91)
      refine hK.out _ _ (so_mk x_4) (fun hHeld2 => ?_)
      clear hK K hHeld; have hHeld := hHeld2; clear hHeld2
      try simp only [Act.put, List.setIfInBounds_toArray, List.set_cons_zero, List.set_cons_succ]
      refine wpAnyH_take (i := 15) (oi := { dst := some 2, op := Op.assign (Operand.tmp 17), type := 68, pos := "link.go:47", after := #[{ on := 14, ground := Ground.data }, { on := 11, ground := Ground.chain }, { on := 0, ground := Ground.phase }, { on := 1, ground := Ground.phase }, { on := 2, ground := Ground.phase }, { on := 3, ground := Ground.phase }, { on := 4, ground := Ground.phase }, { on := 5, ground := Ground.phase }, { on := 6, ground := Ground.phase }, { on := 7, ground := Ground.phase }, { on := 8, ground := Ground.phase }, { on := 9, ground := Ground.phase }, { on := 10, ground := Ground.phase }, { on := 11, ground := Ground.phase }, { on := 12, ground := Ground.phase }, { on := 13, ground := Ground.phase }, { on := 14, ground := Ground.phase }], guard := none }) (v := ?_) rfl (by kernel_rfl) (by kernel_rfl) (by kernel_rfl) (fun _ _ _ h => h) (Or.inl ⟨by rfl, ?_⟩) hHeld ?_
      rotate_left
      · intro w hSw
        try dsimp only at hSw
        go_simp
        try with_reducible rfl
      try simp only [Act.put, List.setIfInBounds_toArray, List.set_cons_zero, List.set_cons_succ]
      refine wpAnyH_done (by kernel_rfl) ?_ _
      clear hHeld
      go_wp2_with fail
      go_ret
      exact ⟨_, _, _, _, rfl, ⟨y_4, z_4, l_4, k_4, ⟨gy_4, ge_1, ge_2, gk_3⟩, ⟨nz_3, nl_3⟩⟩, iv_4⟩
    · skip
      go_simp
      have iv_5 := bal iv_1 (.map #[] 0); have x_5 := x_1.alloc (.map #[] 0)
      have nz_5 : (w_1).heap.size ≠ b_1 := by have := hm_1.lt; omega
      have z_5 := hm_1.alloc (.map #[] 0)
      have k_5 := Smap.made (w_1) Tryd.prog 9
      have gk_5 : w.heap.size ≤ (w_1).heap.size := iv_1.size
      refine hK.out _ _ (so_mk x_5) (fun hHeld2 => ?_)
      clear hK K hHeld; have hHeld := hHeld2; clear hHeld2
      try simp only [Act.put, List.setIfInBounds_toArray, List.set_cons_zero, List.set_cons_succ]
      refine wpAnyH_ready (rs := [11]) (by kernel_rfl) (by simp) ?_
      refine AllReadyH.cons (o := { dst := some 14, op := Op.call { callee := Callee.value (Operand.func 32), args := #[Operand.tmp 12, Operand.tmp 13], argTypes := #[3, 88] }, type := 79, pos := "link.go:50", after := #[{ on := 9, ground := Ground.data }, { on := 10, ground := Ground.data }, { on := 6, ground := Ground.chain }], guard := none }) rfl (fun K hK => ?_) (AllReadyH.nil)
      go_simp
      refine (places_l w.heap.size w.heap.size h S _ x_5 (hS.below iv_5) iv_5.size hnl).mono ?_; rintro e w_6 ⟨b_6, rfl, hg_6, hm_6, hb_6⟩
      try go_wp2_with fail
      have iv_6 := iv_5.trans (hb_6.mono iv_5.size); have x_6 := x_5.below hb_6 x_5.lt
      have nl_6 : (w_1).heap.size ≠ b_6 := by have := k_5.lt; omega
      have z_6 := z_5.below hb_6 z_5.lt
      have k_6 := k_5.below hb_6 k_5.lt
      have ge_6 : w.heap.size ≤ b_6 := Nat.le_trans iv_5.size hg_6
      refine hK.out _ _ (so_mk x_6) (fun hHeld2 => ?_)
      clear hK K hHeld; have hHeld := hHeld2; clear hHeld2
      try simp only [Act.put, List.setIfInBounds_toArray, List.set_cons_zero, List.set_cons_succ]
      refine wpAnyH_take (i := 13) (oi := { dst := some 16, op := Op.build 91 #[(0, Operand.tmp 4), (1, Operand.tmp 9), (2, Operand.tmp 14), (3, Operand.tmp 15)], type := 91, pos := "link.go:47", after := #[{ on := 1, ground := Ground.data }, { on := 6, ground := Ground.data }, { on := 11, ground := Ground.data }, { on := 12, ground := Ground.data }], guard := none }) (v := ?_) rfl (by kernel_rfl) (by kernel_rfl) (by kernel_rfl) (fun _ _ _ h => h) (Or.inl ⟨by rfl, ?_⟩) hHeld ?_
      rotate_left
      · intro w hSw
        try dsimp only at hSw
        go_simp
        try with_reducible rfl
      try simp only [Act.put, List.setIfInBounds_toArray, List.set_cons_zero, List.set_cons_succ]
      refine wpAnyH_ready (rs := [14]) (by kernel_rfl) (by simp) ?_
      refine AllReadyH.cons (o := { dst := some 17, op := Op.box 91 (Operand.tmp 16), type := 68, pos := "link.go:47", after := #[{ on := 13, ground := Ground.data }], guard := none }) rfl (fun K hK => ?_) (AllReadyH.nil)
      go_simp
      have y_7 := Blk.new (w_6) 91 #[.slice h.lA h.ln h.lc, .map (some b_1), .map (some b_6), .map (some ((w_1).heap.size))]
      have iv_7 := bal iv_6 (.cells #[.slice h.lA h.ln h.lc, .map (some b_1), .map (some b_6), .map (some ((w_1).heap.size))] 91); have x_7 := x_6.alloc (.cells #[.slice h.lA h.ln h.lc, .map (some b_1), .map (some b_6), .map (some ((w_1).heap.size))] 91)
      have gy_7 : w.heap.size ≤ (w_6).heap.size := iv_6.size
      have z_7 := z_6.alloc (.cells #[.slice h.lA h.ln h.lc, .map (some b_1), .map (some b_6), .map (some ((w_1).heap.size))] 91)
      have l_7 := hm_6.alloc (.cells #[.slice h.lA h.ln h.lc, .map (some b_1), .map (some b_6), .map (some ((w_1).heap.size))] 91)
      have k_7 := k_6.alloc (.cells #[.slice h.lA h.ln h.lc, .map (some b_1), .map (some b_6), .map (some ((w_1).heap.size))] 91)
      refine hK.out _ _ (so_mk x_7) (fun hHeld2 => ?_)
      clear hK K hHeld; have hHeld := hHeld2; clear hHeld2
      try simp only [Act.put, List.setIfInBounds_toArray, List.set_cons_zero, List.set_cons_succ]
      refine wpAnyH_take (i := 15) (oi := { dst := some 2, op := Op.assign (Operand.tmp 17), type := 68, pos := "link.go:47", after := #[{ on := 14, ground := Ground.data }, { on := 11, ground := Ground.chain }, { on := 0, ground := Ground.phase }, { on := 1, ground := Ground.phase }, { on := 2, ground := Ground.phase }, { on := 3, ground := Ground.phase }, { on := 4, ground := Ground.phase }, { on := 5, ground := Ground.phase }, { on := 6, ground := Ground.phase }, { on := 7, ground := Ground.phase }, { on := 8, ground := Ground.phase }, { on := 9, ground := Ground.phase }, { on := 10, ground := Ground.phase }, { on := 11, ground := Ground.phase }, { on := 12, ground := Ground.phase }, { on := 13, ground := Ground.phase }, { on := 14, ground := Ground.phase }], guard := none }) (v := ?_) rfl (by kernel_rfl) (by kernel_rfl) (by kernel_rfl) (fun _ _ _ h => h) (Or.inl ⟨by rfl, ?_⟩) hHeld ?_
      rotate_left
      · intro w hSw
        try dsimp only at hSw
        go_simp
        try with_reducible rfl
      try simp only [Act.put, List.setIfInBounds_toArray, List.set_cons_zero, List.set_cons_succ]
      refine wpAnyH_done (by kernel_rfl) ?_ _
      clear hHeld
      go_wp2_with fail
      go_ret
      exact ⟨_, _, _, _, rfl, ⟨y_7, z_7, l_7, k_7, ⟨gy_7, ge_1, ge_6, gk_5⟩, ⟨nz_5, nl_6⟩⟩, iv_7⟩
  · skip
    go_simp
    have iv_8 := bal iv0 (.map #[] 0); have x_8 := x0.alloc (.map #[] 0)
    have k_8 := Smap.made (W0.drew) Tryd.prog 9
    have gk_8 : w.heap.size ≤ (W0.drew).heap.size := iv0.size
    refine hK.out _ _ (so_mk x_8) (fun hHeld2 => ?_)
    clear hK K hHeld; have hHeld := hHeld2; clear hHeld2
    try simp only [Act.put, List.setIfInBounds_toArray, List.set_cons_zero, List.set_cons_succ]
    refine wpAnyH_ready (rs := [6]) (by kernel_rfl) (by simp) ?_
    refine AllReadyH.cons (o := { dst := some 9, op := Op.call { callee := Callee.value (Operand.func 32), args := #[Operand.tmp 7, Operand.tmp 8], argTypes := #[3, 88] }, type := 79, pos := "link.go:49", after := #[{ on := 4, ground := Ground.data }, { on := 5, ground := Ground.data }], guard := none }) rfl (fun K hK => ?_) (AllReadyH.nil)
    go_simp
    refine (places_z w.heap.size w.heap.size h S _ x_8 (hS.below iv_8) iv_8.size hnz).mono ?_; rintro e w_9 ⟨b_9, rfl, hg_9, hm_9, hb_9⟩
    try go_wp2_with fail
    have iv_9 := iv_8.trans (hb_9.mono iv_8.size); have x_9 := x_8.below hb_9 x_8.lt
    have nz_9 : (W0.drew).heap.size ≠ b_9 := by have := k_8.lt; omega
    have k_9 := k_8.below hb_9 k_8.lt
    have ge_9 : w.heap.size ≤ b_9 := Nat.le_trans iv_8.size hg_9
    refine hK.out _ _ (so_mk x_9) (fun hHeld2 => ?_)
    clear hK K hHeld; have hHeld := hHeld2; clear hHeld2
    try simp only [Act.put, List.setIfInBounds_toArray, List.set_cons_zero, List.set_cons_succ]
    refine wpAnyH_ready (rs := [11]) (by kernel_rfl) (by simp) ?_
    refine AllReadyH.cons (o := { dst := some 14, op := Op.call { callee := Callee.value (Operand.func 32), args := #[Operand.tmp 12, Operand.tmp 13], argTypes := #[3, 88] }, type := 79, pos := "link.go:50", after := #[{ on := 9, ground := Ground.data }, { on := 10, ground := Ground.data }, { on := 6, ground := Ground.chain }], guard := none }) rfl (fun K hK => ?_) (AllReadyH.nil)
    go_simp
    refine (places_l w.heap.size w.heap.size h S _ x_9 (hS.below iv_9) iv_9.size hnl).mono ?_; rintro e w_10 ⟨b_10, rfl, hg_10, hm_10, hb_10⟩
    try go_wp2_with fail
    have iv_10 := iv_9.trans (hb_10.mono iv_9.size); have x_10 := x_9.below hb_10 x_9.lt
    have nl_10 : (W0.drew).heap.size ≠ b_10 := by have := k_9.lt; omega
    have z_10 := hm_9.below hb_10 hm_9.lt
    have k_10 := k_9.below hb_10 k_9.lt
    have ge_10 : w.heap.size ≤ b_10 := Nat.le_trans iv_9.size hg_10
    refine hK.out _ _ (so_mk x_10) (fun hHeld2 => ?_)
    clear hK K hHeld; have hHeld := hHeld2; clear hHeld2
    try simp only [Act.put, List.setIfInBounds_toArray, List.set_cons_zero, List.set_cons_succ]
    refine wpAnyH_take (i := 13) (oi := { dst := some 16, op := Op.build 91 #[(0, Operand.tmp 4), (1, Operand.tmp 9), (2, Operand.tmp 14), (3, Operand.tmp 15)], type := 91, pos := "link.go:47", after := #[{ on := 1, ground := Ground.data }, { on := 6, ground := Ground.data }, { on := 11, ground := Ground.data }, { on := 12, ground := Ground.data }], guard := none }) (v := ?_) rfl (by kernel_rfl) (by kernel_rfl) (by kernel_rfl) (fun _ _ _ h => h) (Or.inl ⟨by rfl, ?_⟩) hHeld ?_
    rotate_left
    · intro w hSw
      try dsimp only at hSw
      go_simp
      try with_reducible rfl
    try simp only [Act.put, List.setIfInBounds_toArray, List.set_cons_zero, List.set_cons_succ]
    refine wpAnyH_ready (rs := [14]) (by kernel_rfl) (by simp) ?_
    refine AllReadyH.cons (o := { dst := some 17, op := Op.box 91 (Operand.tmp 16), type := 68, pos := "link.go:47", after := #[{ on := 13, ground := Ground.data }], guard := none }) rfl (fun K hK => ?_) (AllReadyH.nil)
    go_simp
    have y_11 := Blk.new (w_10) 91 #[.slice h.lA h.ln h.lc, .map (some b_9), .map (some b_10), .map (some ((W0.drew).heap.size))]
    have iv_11 := bal iv_10 (.cells #[.slice h.lA h.ln h.lc, .map (some b_9), .map (some b_10), .map (some ((W0.drew).heap.size))] 91); have x_11 := x_10.alloc (.cells #[.slice h.lA h.ln h.lc, .map (some b_9), .map (some b_10), .map (some ((W0.drew).heap.size))] 91)
    have gy_11 : w.heap.size ≤ (w_10).heap.size := iv_10.size
    have z_11 := z_10.alloc (.cells #[.slice h.lA h.ln h.lc, .map (some b_9), .map (some b_10), .map (some ((W0.drew).heap.size))] 91)
    have l_11 := hm_10.alloc (.cells #[.slice h.lA h.ln h.lc, .map (some b_9), .map (some b_10), .map (some ((W0.drew).heap.size))] 91)
    have k_11 := k_10.alloc (.cells #[.slice h.lA h.ln h.lc, .map (some b_9), .map (some b_10), .map (some ((W0.drew).heap.size))] 91)
    refine hK.out _ _ (so_mk x_11) (fun hHeld2 => ?_)
    clear hK K hHeld; have hHeld := hHeld2; clear hHeld2
    try simp only [Act.put, List.setIfInBounds_toArray, List.set_cons_zero, List.set_cons_succ]
    refine wpAnyH_take (i := 15) (oi := { dst := some 2, op := Op.assign (Operand.tmp 17), type := 68, pos := "link.go:47", after := #[{ on := 14, ground := Ground.data }, { on := 11, ground := Ground.chain }, { on := 0, ground := Ground.phase }, { on := 1, ground := Ground.phase }, { on := 2, ground := Ground.phase }, { on := 3, ground := Ground.phase }, { on := 4, ground := Ground.phase }, { on := 5, ground := Ground.phase }, { on := 6, ground := Ground.phase }, { on := 7, ground := Ground.phase }, { on := 8, ground := Ground.phase }, { on := 9, ground := Ground.phase }, { on := 10, ground := Ground.phase }, { on := 11, ground := Ground.phase }, { on := 12, ground := Ground.phase }, { on := 13, ground := Ground.phase }, { on := 14, ground := Ground.phase }], guard := none }) (v := ?_) rfl (by kernel_rfl) (by kernel_rfl) (by kernel_rfl) (fun _ _ _ h => h) (Or.inl ⟨by rfl, ?_⟩) hHeld ?_
    rotate_left
    · intro w hSw
      try dsimp only at hSw
      go_simp
      try with_reducible rfl
    try simp only [Act.put, List.setIfInBounds_toArray, List.set_cons_zero, List.set_cons_succ]
    refine wpAnyH_done (by kernel_rfl) ?_ _
    clear hHeld
    go_wp2_with fail
    go_ret
    exact ⟨_, _, _, _, rfl, ⟨y_11, z_11, l_11, k_11, ⟨gy_11, ge_9, ge_10, gk_8⟩, ⟨nz_9, nl_10⟩⟩, iv_11⟩
end Go.Proofs.YtnoaeejdcdeanaaDoor.Lk
