/-
  The document's numbers, names and offsets, as texts: walked.
-/
import Derived.Test.YtgdgkgeoigljcaaDoorFoG
import Derived.Laws.BytesString
import Derived.Deep.RegionHeld3
import Derived.BigQuiet
namespace Go.Proofs.YtgdgkgeoigljcaaDoor.Fo
open Go.ChangeShapes Go.WideShapes Go.ChangeAt Go.RowKit Go.Shelf
open Go.Proofs.YtgdgkgeoigljcaaDoor
open Go.Proofs.YtgdgkgeoigljcaaDoor.Wd
set_option linter.unusedVariables false
set_option linter.unusedSimpArgs false
theorem conv_at (w : World) (g : Nat) (x : Int) (h : w.cell? ⟨g, 0, none⟩ = some (.int .u8 x)) :
    (convert 44 9 (.slice (some ⟨g, 0, none⟩) 1 1)).run Tryd.prog w = .ok (.string ⟨#[UInt8.ofNat x.toNat]⟩) w := by
  rw [run_convert_bytes_string _ _ _ _ (some ⟨g, 0, none⟩) 1 1 Tryd.underlying44 Tryd.underlying5 Tryd.underlying9]
  have hl := run_loadCells_list (P := Tryd.prog) w ⟨g, 0, none⟩ ([x].map (Value.int .u8)) (fun j v hj => by
    match j, hj with
    | 0, hj => simp at hj; subst hj; simpa [Addr.add] using h)
  rw [run_bytesToString _ _ 1 1 [x] hl]
  rfl
theorem conv_2 (w : World) (g : Nat) (x y : Int) (h : w.cell? ⟨g, 0, none⟩ = some (.int .u8 x)) (h2 : w.cell? ⟨g, 1, none⟩ = some (.int .u8 y)) :
    (convert 44 9 (.slice (some ⟨g, 0, none⟩) 2 2)).run Tryd.prog w = .ok (.string ⟨#[UInt8.ofNat x.toNat, UInt8.ofNat y.toNat]⟩) w := by
  rw [run_convert_bytes_string _ _ _ _ (some ⟨g, 0, none⟩) 2 2 Tryd.underlying44 Tryd.underlying5 Tryd.underlying9]
  have hl := run_loadCells_list (P := Tryd.prog) w ⟨g, 0, none⟩ ([x, y].map (Value.int .u8)) (fun j v hj => by
    match j, hj with
    | 0, hj => simp at hj; subst hj; simpa [Addr.add] using h
    | 1, hj => simp at hj; subst hj; simpa [Addr.add] using h2)
  rw [run_bytesToString _ _ 2 2 [x, y] hl]
  rfl
set_option maxRecDepth 20000 in
set_option maxHeartbeats 3200000 in
theorem rnum_1 (n : Nat) (w : World) (hn : n < 10) : Calls Tryd.prog 53 #[.int .i64 (n : Int)] w fun e w' => e = .returned (.string (B (numT n))) ∧ Below w.heap.size w w' := by
  have HR := Lib.hid (show B (numT n) = ⟨#[UInt8.ofNat (48 + (n : Int)).toNat]⟩ by
    unfold numT; rw [if_pos hn, show (48 + (n : Int)).toNat = 48 + n by omega])
  have h0 : ¬ (n : Int) < 0 := by omega
  have h1 : (n : Int) < 10 := by omega
  have hw : IntKind.u8.wrap (48 + (n : Int)) = 48 + (n : Int) := by simp [IntKind.wrap, IntKind.bits, IntKind.signed]; omega
  have hcv := conv_at (w.alloc (.cells #[.int .u8 (48 + (n : Int))] 5)) w.heap.size (48 + (n : Int)) ((Blk.new w 5 #[.int .u8 (48 + (n : Int))]).cell 0)
  generalize (⟨#[UInt8.ofNat (48 + (n : Int)).toNat]⟩ : ByteArray) = s1 at hcv HR
  go_enter Tryd.func53, Tryd.ntmps53
  go_wp2_with fail
  go_ret
  exact ⟨by rw [HR.out]; rfl, (Below.refl _ w).alloc (Nat.le_refl _) _⟩
set_option maxRecDepth 20000 in
set_option maxHeartbeats 3200000 in
theorem rnum_2 (n : Nat) (w : World) (h10 : 10 ≤ n) (hn : n < 100) : Calls Tryd.prog 53 #[.int .i64 (n : Int)] w fun e w' => e = .returned (.string (B (numT n))) ∧ Below w.heap.size w w' := by
  have HR0 : B (numT n) = B (numT (n / 10)) ++ ⟨#[UInt8.ofNat (48 + ((n % 10 : Nat) : Int)).toNat]⟩ := by
    rw [show (48 + ((n % 10 : Nat) : Int)).toNat = 48 + n % 10 by omega]
    unfold numT; rw [if_neg (by omega), if_pos (by omega)]
    apply ByteArray.ext; simp [ByteArray.data_append]
  have h1 := fun w => rnum_1 (n / 10) w (by omega)
  have z1 : (B (numT (n / 10))).size = 1 := by rw [B_len]; unfold numT; rw [if_pos (by omega)]; rfl
  have h0 : ¬ (n : Int) < 0 := by omega
  have h2 : ¬ (n : Int) < 10 := by omega
  have t1 : (n : Int).tdiv 10 = ((n / 10 : Nat) : Int) := (tdm (n := n) (k := 10) (by decide)).1
  have t2 : (n : Int).tmod 10 = ((n % 10 : Nat) : Int) := (tdm (n := n) (k := 10) (by decide)).2
  have hw : IntKind.u8.wrap (48 + ((n % 10 : Nat) : Int)) = (48 + ((n % 10 : Nat) : Int)) := by simp [IntKind.wrap, IntKind.bits, IntKind.signed]; omega
  have b1 : ((n / 10 : Nat) : Int) < 10 := by omega
  have b2 : n % 10 < 10 := by omega
  have hcA := fun (W : World) (g : Nat) (h : W.cell? ⟨g, 0, none⟩ = some (.int .u8 (48 + ((n % 10 : Nat) : Int)))) => conv_at W g (48 + ((n % 10 : Nat) : Int)) h
  have z2 : ¬ 9223372036854775807 < 1 + (⟨#[UInt8.ofNat (48 + ((n % 10 : Nat) : Int)).toNat]⟩ : ByteArray).size := by show ¬ 9223372036854775807 < 1 + 1; decide
  generalize (⟨#[UInt8.ofNat (48 + ((n % 10 : Nat) : Int)).toNat]⟩ : ByteArray) = s2 at *
  generalize B (numT (n / 10)) = s1 at *
  generalize n % 10 = d at *
  generalize n / 10 = q at *
  have HR := Lib.hid HR0
  clear HR0
  have w64q : IntKind.i64.wrap (q : Int) = (q : Int) := by simp [IntKind.wrap, IntKind.bits, IntKind.signed]; omega
  have w64d : IntKind.i64.wrap (48 + (d : Int)) = 48 + (d : Int) := by simp [IntKind.wrap, IntKind.bits, IntKind.signed]; omega
  go_enter Tryd.func53, Tryd.ntmps53
  go_upto_region 5 with fail
  refine wp_region_held_drew (S := fun w' => Below w.heap.size w w') (by kernel_rfl) ((Below.refl _ w).drew) (fun hHeld => ?_)
  generalize w.drew = Wd at *
  refine wpAnyH_take (i := 0) (oi := { dst := some 16, op := Op.move (Operand.tmp 0), type := 2, pos := "ref.go:67", after := #[], guard := none }) (v := ?_) rfl (by kernel_rfl) (by kernel_rfl) (by kernel_rfl) (fun _ _ _ h => h) (Or.inl ⟨by rfl, ?_⟩) hHeld ?_
  rotate_left
  · intro w hSw
    try dsimp only at hSw
    go_simp
    try with_reducible rfl
  try simp only [Act.put, List.setIfInBounds_toArray, List.set_cons_zero, List.set_cons_succ]
  refine wpAnyH_take (i := 1) (oi := { dst := some 17, op := Op.binOp BinOp.quo 2 (Operand.tmp 16) (Operand.const (Value.int IntKind.i64 10)) 2, type := 2, pos := "ref.go:67", after := #[{ on := 0, ground := Ground.data }], guard := none }) (v := ?_) rfl (by kernel_rfl) (by kernel_rfl) (by kernel_rfl) (fun _ _ _ h => h) (Or.inl ⟨by rfl, ?_⟩) hHeld ?_
  rotate_left
  · intro w hSw
    try dsimp only at hSw
    go_simp
    try with_reducible rfl
  try simp only [Act.put, List.setIfInBounds_toArray, List.set_cons_zero, List.set_cons_succ]
  refine wpAnyH_take (i := 3) (oi := { dst := some 19, op := Op.move (Operand.tmp 0), type := 2, pos := "ref.go:67", after := #[], guard := none }) (v := ?_) rfl (by kernel_rfl) (by kernel_rfl) (by kernel_rfl) (fun _ _ _ h => h) (Or.inl ⟨by rfl, ?_⟩) hHeld ?_
  rotate_left
  · intro w hSw
    try dsimp only at hSw
    go_simp
    try with_reducible rfl
  try simp only [Act.put, List.setIfInBounds_toArray, List.set_cons_zero, List.set_cons_succ]
  refine wpAnyH_take (i := 4) (oi := { dst := some 20, op := Op.binOp BinOp.rem 2 (Operand.tmp 19) (Operand.const (Value.int IntKind.i64 10)) 2, type := 2, pos := "ref.go:67", after := #[{ on := 3, ground := Ground.data }], guard := none }) (v := ?_) rfl (by kernel_rfl) (by kernel_rfl) (by kernel_rfl) (fun _ _ _ h => h) (Or.inl ⟨by rfl, ?_⟩) hHeld ?_
  rotate_left
  · intro w hSw
    try dsimp only at hSw
    go_simp
    try with_reducible rfl
  try simp only [Act.put, List.setIfInBounds_toArray, List.set_cons_zero, List.set_cons_succ]
  refine wpAnyH_take (i := 5) (oi := { dst := some 21, op := Op.binOp BinOp.add 2 (Operand.const (Value.int IntKind.i64 48)) (Operand.tmp 20) 2, type := 2, pos := "ref.go:67", after := #[{ on := 4, ground := Ground.data }], guard := none }) (v := ?_) rfl (by kernel_rfl) (by kernel_rfl) (by kernel_rfl) (fun _ _ _ h => h) (Or.inl ⟨by rfl, ?_⟩) hHeld ?_
  rotate_left
  · intro w hSw
    try dsimp only at hSw
    go_simp
    try with_reducible rfl
  try simp only [Act.put, List.setIfInBounds_toArray, List.set_cons_zero, List.set_cons_succ]
  refine wpAnyH_take (i := 6) (oi := { dst := some 22, op := Op.convert 2 5 (Operand.tmp 21), type := 5, pos := "ref.go:67", after := #[{ on := 5, ground := Ground.data }], guard := none }) (v := ?_) rfl (by kernel_rfl) (by kernel_rfl) (by kernel_rfl) (fun _ _ _ h => h) (Or.inl ⟨by rfl, ?_⟩) hHeld ?_
  rotate_left
  · intro w hSw
    try dsimp only at hSw
    go_simp
    try with_reducible rfl
  try simp only [Act.put, List.setIfInBounds_toArray, List.set_cons_zero, List.set_cons_succ]
  refine wpAnyH_ready (rs := [2, 7]) (by kernel_rfl) (by simp) ?_
  refine AllReadyH.cons (o := { dst := some 18, op := Op.call { callee := Callee.value (Operand.func 53), args := #[Operand.tmp 17], argTypes := #[2] }, type := 9, pos := "ref.go:67", after := #[{ on := 1, ground := Ground.data }], guard := none }) rfl (fun K hK => ?_) (AllReadyH.cons (o := { dst := some 23, op := Op.buildSlice 44 1 #[(0, Operand.tmp 22)], type := 44, pos := "ref.go:67", after := #[{ on := 6, ground := Ground.data }], guard := none }) rfl (fun K hK => ?_) (AllReadyH.nil))
  · skip
    go_simp
    refine (h1 _).mono ?_; rintro e w_1 ⟨rfl, hb_1⟩
    try go_wp2_with fail
    refine hK.out _ _ (hHeld.trans (hb_1.mono hHeld.size)) (fun hHeld2 => ?_)
    clear hK K hHeld; have hHeld := hHeld2; clear hHeld2
    try simp only [Act.put, List.setIfInBounds_toArray, List.set_cons_zero, List.set_cons_succ]
    refine wpAnyH_ready (rs := [7]) (by kernel_rfl) (by simp) ?_
    refine AllReadyH.cons (o := { dst := some 23, op := Op.buildSlice 44 1 #[(0, Operand.tmp 22)], type := 44, pos := "ref.go:67", after := #[{ on := 6, ground := Ground.data }], guard := none }) rfl (fun K hK => ?_) (AllReadyH.nil)
    go_simp
    have bk_2 := Blk.new w_1 5 #[.int .u8 (48 + (d : Int))]
    refine hK.out _ _ (hHeld.alloc hHeld.size _) (fun hHeld2 => ?_)
    clear hK K hHeld; have hHeld := hHeld2; clear hHeld2
    try simp only [Act.put, List.setIfInBounds_toArray, List.set_cons_zero, List.set_cons_succ]
    refine wpAnyH_ready (rs := [8]) (by kernel_rfl) (by simp) ?_
    refine AllReadyH.cons (o := { dst := some 24, op := Op.convert 44 9 (Operand.tmp 23), type := 9, pos := "ref.go:67", after := #[{ on := 7, ground := Ground.data }], guard := none }) rfl (fun K hK => ?_) (AllReadyH.nil)
    have hcv := hcA (w_1.alloc (.cells #[.int .u8 (48 + (d : Int))] 5)) w_1.heap.size (bk_2.cell 0)
    go_simp
    refine hK.out _ _ (hHeld) (fun hHeld2 => ?_)
    clear hK K hHeld; have hHeld := hHeld2; clear hHeld2
    try simp only [Act.put, List.setIfInBounds_toArray, List.set_cons_zero, List.set_cons_succ]
    refine wpAnyH_take (i := 9) (oi := { dst := some 25, op := Op.binOp BinOp.add 9 (Operand.tmp 18) (Operand.tmp 24) 9, type := 9, pos := "ref.go:67", after := #[{ on := 2, ground := Ground.data }, { on := 8, ground := Ground.data }], guard := none }) (v := ?_) rfl (by kernel_rfl) (by kernel_rfl) (by kernel_rfl) (fun _ _ _ h => h) (Or.inl ⟨by rfl, ?_⟩) hHeld ?_
    rotate_left
    · intro w hSw
      try dsimp only at hSw
      go_simp
      try with_reducible rfl
    try simp only [Act.put, List.setIfInBounds_toArray, List.set_cons_zero, List.set_cons_succ]
    refine wpAnyH_take (i := 10) (oi := { dst := some 2, op := Op.assign (Operand.tmp 25), type := 9, pos := "ref.go:67", after := #[{ on := 9, ground := Ground.data }, { on := 2, ground := Ground.chain }, { on := 0, ground := Ground.phase }, { on := 1, ground := Ground.phase }, { on := 2, ground := Ground.phase }, { on := 3, ground := Ground.phase }, { on := 4, ground := Ground.phase }, { on := 5, ground := Ground.phase }, { on := 6, ground := Ground.phase }, { on := 7, ground := Ground.phase }, { on := 8, ground := Ground.phase }, { on := 9, ground := Ground.phase }], guard := none }) (v := ?_) rfl (by kernel_rfl) (by kernel_rfl) (by kernel_rfl) (fun _ _ _ h => h) (Or.inl ⟨by rfl, ?_⟩) hHeld ?_
    rotate_left
    · intro w hSw
      try dsimp only at hSw
      go_simp
      try with_reducible rfl
    try simp only [Act.put, List.setIfInBounds_toArray, List.set_cons_zero, List.set_cons_succ]
    refine wpAnyH_done (by kernel_rfl) ?_ _
    go_wp2_with fail
    go_ret
    exact ⟨by rw [HR.out]; rfl, hHeld⟩
  · skip
    go_simp
    have bk_4 := Blk.new Wd 5 #[.int .u8 (48 + (d : Int))]
    refine hK.out _ _ (hHeld.alloc hHeld.size _) (fun hHeld2 => ?_)
    clear hK K hHeld; have hHeld := hHeld2; clear hHeld2
    try simp only [Act.put, List.setIfInBounds_toArray, List.set_cons_zero, List.set_cons_succ]
    refine wpAnyH_ready (rs := [2, 8]) (by kernel_rfl) (by simp) ?_
    refine AllReadyH.cons (o := { dst := some 18, op := Op.call { callee := Callee.value (Operand.func 53), args := #[Operand.tmp 17], argTypes := #[2] }, type := 9, pos := "ref.go:67", after := #[{ on := 1, ground := Ground.data }], guard := none }) rfl (fun K hK => ?_) (AllReadyH.cons (o := { dst := some 24, op := Op.convert 44 9 (Operand.tmp 23), type := 9, pos := "ref.go:67", after := #[{ on := 7, ground := Ground.data }], guard := none }) rfl (fun K hK => ?_) (AllReadyH.nil))
    · skip
      go_simp
      refine (h1 _).mono ?_; rintro e w_5 ⟨rfl, hb_5⟩
      have bk_5 := bk_4.below hb_5 bk_4.lt
      try go_wp2_with fail
      refine hK.out _ _ (hHeld.trans (hb_5.mono hHeld.size)) (fun hHeld2 => ?_)
      clear hK K hHeld; have hHeld := hHeld2; clear hHeld2
      try simp only [Act.put, List.setIfInBounds_toArray, List.set_cons_zero, List.set_cons_succ]
      refine wpAnyH_ready (rs := [8]) (by kernel_rfl) (by simp) ?_
      refine AllReadyH.cons (o := { dst := some 24, op := Op.convert 44 9 (Operand.tmp 23), type := 9, pos := "ref.go:67", after := #[{ on := 7, ground := Ground.data }], guard := none }) rfl (fun K hK => ?_) (AllReadyH.nil)
      have hcv := hcA w_5 Wd.heap.size (bk_5.cell 0)
      go_simp
      refine hK.out _ _ (hHeld) (fun hHeld2 => ?_)
      clear hK K hHeld; have hHeld := hHeld2; clear hHeld2
      try simp only [Act.put, List.setIfInBounds_toArray, List.set_cons_zero, List.set_cons_succ]
      refine wpAnyH_take (i := 9) (oi := { dst := some 25, op := Op.binOp BinOp.add 9 (Operand.tmp 18) (Operand.tmp 24) 9, type := 9, pos := "ref.go:67", after := #[{ on := 2, ground := Ground.data }, { on := 8, ground := Ground.data }], guard := none }) (v := ?_) rfl (by kernel_rfl) (by kernel_rfl) (by kernel_rfl) (fun _ _ _ h => h) (Or.inl ⟨by rfl, ?_⟩) hHeld ?_
      rotate_left
      · intro w hSw
        try dsimp only at hSw
        go_simp
        try with_reducible rfl
      try simp only [Act.put, List.setIfInBounds_toArray, List.set_cons_zero, List.set_cons_succ]
      refine wpAnyH_take (i := 10) (oi := { dst := some 2, op := Op.assign (Operand.tmp 25), type := 9, pos := "ref.go:67", after := #[{ on := 9, ground := Ground.data }, { on := 2, ground := Ground.chain }, { on := 0, ground := Ground.phase }, { on := 1, ground := Ground.phase }, { on := 2, ground := Ground.phase }, { on := 3, ground := Ground.phase }, { on := 4, ground := Ground.phase }, { on := 5, ground := Ground.phase }, { on := 6, ground := Ground.phase }, { on := 7, ground := Ground.phase }, { on := 8, ground := Ground.phase }, { on := 9, ground := Ground.phase }], guard := none }) (v := ?_) rfl (by kernel_rfl) (by kernel_rfl) (by kernel_rfl) (fun _ _ _ h => h) (Or.inl ⟨by rfl, ?_⟩) hHeld ?_
      rotate_left
      · intro w hSw
        try dsimp only at hSw
        go_simp
        try with_reducible rfl
      try simp only [Act.put, List.setIfInBounds_toArray, List.set_cons_zero, List.set_cons_succ]
      refine wpAnyH_done (by kernel_rfl) ?_ _
      go_wp2_with fail
      go_ret
      exact ⟨by rw [HR.out]; rfl, hHeld⟩
    · skip
      have hcv := hcA (Wd.alloc (.cells #[.int .u8 (48 + (d : Int))] 5)) Wd.heap.size (bk_4.cell 0)
      go_simp
      refine hK.out _ _ (hHeld) (fun hHeld2 => ?_)
      clear hK K hHeld; have hHeld := hHeld2; clear hHeld2
      try simp only [Act.put, List.setIfInBounds_toArray, List.set_cons_zero, List.set_cons_succ]
      refine wpAnyH_ready (rs := [2]) (by kernel_rfl) (by simp) ?_
      refine AllReadyH.cons (o := { dst := some 18, op := Op.call { callee := Callee.value (Operand.func 53), args := #[Operand.tmp 17], argTypes := #[2] }, type := 9, pos := "ref.go:67", after := #[{ on := 1, ground := Ground.data }], guard := none }) rfl (fun K hK => ?_) (AllReadyH.nil)
      go_simp
      refine (h1 _).mono ?_; rintro e w_8 ⟨rfl, hb_8⟩
      have bk_8 := bk_4.below hb_8 bk_4.lt
      try go_wp2_with fail
      refine hK.out _ _ (hHeld.trans (hb_8.mono hHeld.size)) (fun hHeld2 => ?_)
      clear hK K hHeld; have hHeld := hHeld2; clear hHeld2
      try simp only [Act.put, List.setIfInBounds_toArray, List.set_cons_zero, List.set_cons_succ]
      refine wpAnyH_take (i := 9) (oi := { dst := some 25, op := Op.binOp BinOp.add 9 (Operand.tmp 18) (Operand.tmp 24) 9, type := 9, pos := "ref.go:67", after := #[{ on := 2, ground := Ground.data }, { on := 8, ground := Ground.data }], guard := none }) (v := ?_) rfl (by kernel_rfl) (by kernel_rfl) (by kernel_rfl) (fun _ _ _ h => h) (Or.inl ⟨by rfl, ?_⟩) hHeld ?_
      rotate_left
      · intro w hSw
        try dsimp only at hSw
        go_simp
        try with_reducible rfl
      try simp only [Act.put, List.setIfInBounds_toArray, List.set_cons_zero, List.set_cons_succ]
      refine wpAnyH_take (i := 10) (oi := { dst := some 2, op := Op.assign (Operand.tmp 25), type := 9, pos := "ref.go:67", after := #[{ on := 9, ground := Ground.data }, { on := 2, ground := Ground.chain }, { on := 0, ground := Ground.phase }, { on := 1, ground := Ground.phase }, { on := 2, ground := Ground.phase }, { on := 3, ground := Ground.phase }, { on := 4, ground := Ground.phase }, { on := 5, ground := Ground.phase }, { on := 6, ground := Ground.phase }, { on := 7, ground := Ground.phase }, { on := 8, ground := Ground.phase }, { on := 9, ground := Ground.phase }], guard := none }) (v := ?_) rfl (by kernel_rfl) (by kernel_rfl) (by kernel_rfl) (fun _ _ _ h => h) (Or.inl ⟨by rfl, ?_⟩) hHeld ?_
      rotate_left
      · intro w hSw
        try dsimp only at hSw
        go_simp
        try with_reducible rfl
      try simp only [Act.put, List.setIfInBounds_toArray, List.set_cons_zero, List.set_cons_succ]
      refine wpAnyH_done (by kernel_rfl) ?_ _
      go_wp2_with fail
      go_ret
      exact ⟨by rw [HR.out]; rfl, hHeld⟩
theorem rnum40 (z : Int) (w : World) (hz : 0 ≤ z ∧ z < 100) : Calls Tryd.prog 53 #[.int .i64 z] w fun e w' => e = .returned (.string (B (numT z.toNat))) ∧ Below w.heap.size w w' := by
  obtain ⟨n, rfl⟩ : ∃ n : Nat, z = n := ⟨z.toNat, by omega⟩
  rw [Int.toNat_natCast]
  by_cases h : n < 10
  · exact rnum_1 n w h
  · exact rnum_2 n w (by omega) (by omega)
set_option maxRecDepth 20000 in
set_option maxHeartbeats 3200000 in
theorem rtwo_any (n : Nat) (w : World) (hn : n < 100) : Calls Tryd.prog 54 #[.int .i64 (n : Int)] w fun e w' => e = .returned (.string (B [UInt8.ofNat (48 + n / 10 % 10), UInt8.ofNat (48 + n % 10)])) ∧ Below w.heap.size w w' := by
  have HR := Lib.hid (show (B [UInt8.ofNat (48 + n / 10 % 10), UInt8.ofNat (48 + n % 10)]) = ⟨#[UInt8.ofNat (48 + ((n / 10 : Nat) : Int)).toNat, UInt8.ofNat (48 + ((n % 10 : Nat) : Int)).toNat]⟩ by
    rw [show (48 + ((n % 10 : Nat) : Int)).toNat = 48 + n % 10 by omega, show (48 + ((n / 10 : Nat) : Int)).toNat = 48 + n / 10 % 10 by omega])
  have t1 : (n : Int).tdiv 10 = ((n / 10 : Nat) : Int) := (tdm (n := n) (k := 10) (by decide)).1
  have t2 : (n : Int).tmod 10 = ((n % 10 : Nat) : Int) := (tdm (n := n) (k := 10) (by decide)).2
  have hw : IntKind.u8.wrap (48 + ((n % 10 : Nat) : Int)) = (48 + ((n % 10 : Nat) : Int)) := by simp [IntKind.wrap, IntKind.bits, IntKind.signed]; omega
  have hw2 : IntKind.u8.wrap (48 + ((n / 10 : Nat) : Int)) = 48 + ((n / 10 : Nat) : Int) := by simp [IntKind.wrap, IntKind.bits, IntKind.signed]; omega
  have bk := Blk.new w 5 #[.int .u8 (48 + ((n / 10 : Nat) : Int)), .int .u8 (48 + ((n % 10 : Nat) : Int))]
  have hcv := conv_2 _ w.heap.size _ _ (bk.cell 0) (bk.cell 1)
  generalize (⟨#[UInt8.ofNat (48 + ((n / 10 : Nat) : Int)).toNat, UInt8.ofNat (48 + ((n % 10 : Nat) : Int)).toNat]⟩ : ByteArray) = s1 at hcv HR
  clear bk
  have b1 : n / 10 < 10 := by omega
  have b2 : n % 10 < 10 := by omega
  generalize B [UInt8.ofNat (48 + n / 10 % 10), UInt8.ofNat (48 + n % 10)] = R at *
  generalize n % 10 = d at *
  generalize n / 10 = q at *
  go_enter Tryd.func54, Tryd.ntmps54
  go_wp2_with fail
  go_ret
  exact ⟨by rw [HR.out]; rfl, (Below.refl _ w).alloc (Nat.le_refl _) _⟩
set_option maxRecDepth 20000 in
set_option maxHeartbeats 3200000 in
theorem rnam_any (s : ByteArray) (w : World) (hs : s.size ≤ 100000) : Calls Tryd.prog 23 #[.string s] w fun e w' => e = .returned (.string (B (nameT (L s)))) ∧ w' = w := by
  have hg := fun w => rlet_any s w (by unfold maxLen; omega)
  have q1 : ¬ 9223372036854775807 < 1 + s.size := by omega
  have q2 : ¬ 9223372036854775807 < 1 + s.size + 1 := by omega
  cases hq : allB letB (L s) with
  | true =>
    have HR := Lib.hid (show B (nameT (L s)) = s by unfold nameT; rw [if_pos ((ltN_all (L s)).2 hq), B_L])
    rw [hq] at hg; clear hq
    go_enter Tryd.func23, Tryd.ntmps23
    go_wp2_with (refine (hg _).mono ?_; rintro e W ⟨rfl, rfl⟩)
    go_ret
    exact ⟨by rw [HR.out]; rfl, rfl⟩
  | false =>
    have HR := Lib.hid (show B (nameT (L s)) = ⟨#[60]⟩ ++ s ++ ⟨#[62]⟩ by
      unfold nameT; rw [if_neg (fun e => by have := (ltN_all (L s)).1 e; rw [show (L s).all letB = allB letB (L s) from rfl, hq] at this; cases this)]
      apply ByteArray.ext; simp [ByteArray.data_append, L])
    rw [hq] at hg; clear hq
    go_enter Tryd.func23, Tryd.ntmps23
    go_wp2_with (refine (hg _).mono ?_; rintro e W ⟨rfl, rfl⟩)
    go_ret
    exact ⟨by rw [HR.out]; rfl, rfl⟩
end Go.Proofs.YtgdgkgeoigljcaaDoor.Fo
