/-
  The document's stamps, as texts: walked.
-/
import Derived.Test.YtgdgkgeoigljcaaDoorFoI
namespace Go.Proofs.YtgdgkgeoigljcaaDoor.Fo
open Go.ChangeShapes Go.WideShapes Go.ChangeAt Go.RowKit Go.Shelf
open Go.Proofs.YtgdgkgeoigljcaaDoor
open Go.Proofs.YtgdgkgeoigljcaaDoor.Wd
open Go.Proofs.YtgdgkgeoigljcaaDoor.Rec
set_option linter.unusedVariables false
set_option linter.unusedSimpArgs false
theorem st_mk {m v d h i s g n : Nat} {w0 W : World} (h1 : Blk W g 24 (sA ⟨0, m, v, d, h, i, s, 0⟩)) (hb : Below n w0 W) :
    W.cell? ⟨g, 1, none⟩ = some (.int .u16 (m : Int)) ∧ W.cell? ⟨g, 3, none⟩ = some (.int .u16 (d : Int)) ∧ W.cell? ⟨g, 2, none⟩ = some (.int .u16 (v : Int)) ∧ Blk W g 24 (sA ⟨0, m, v, d, h, i, s, 0⟩) ∧ Below n w0 W := ⟨h1.cell 1, h1.cell 3, h1.cell 2, h1, hb⟩
theorem st_on {m v d h i s g : Nat} {w0 W W2 : World} (h1 : W.cell? ⟨g, 1, none⟩ = some (.int .u16 (m : Int)) ∧ W.cell? ⟨g, 3, none⟩ = some (.int .u16 (d : Int)) ∧ W.cell? ⟨g, 2, none⟩ = some (.int .u16 (v : Int)) ∧ Blk W g 24 (sA ⟨0, m, v, d, h, i, s, 0⟩) ∧ Below w0.heap.size w0 W) (hbl : Below W.heap.size W W2) :
    W2.cell? ⟨g, 1, none⟩ = some (.int .u16 (m : Int)) ∧ W2.cell? ⟨g, 3, none⟩ = some (.int .u16 (d : Int)) ∧ W2.cell? ⟨g, 2, none⟩ = some (.int .u16 (v : Int)) ∧ Blk W2 g 24 (sA ⟨0, m, v, d, h, i, s, 0⟩) ∧ Below w0.heap.size w0 W2 :=
  st_mk (h1.2.2.2.1.below hbl h1.2.2.2.1.lt) (h1.2.2.2.2.trans (hbl.mono h1.2.2.2.2.size))
set_option maxRecDepth 20000 in
set_option maxHeartbeats 6400000 in
theorem rst40 (m v d h i s : Nat) (w : World) (hm : m < 100) (hd : d < 100) (hv : v < 100) (hh : h < 100) (hi : i < 100) (hs : s < 100) : Calls Tryd.prog 25 #[.agg (sA ⟨0, m, v, d, h, i, s, 0⟩)] w fun e w' => e = .returned (.string (B (stT ⟨0, m, v, d, h, i, s, 0⟩))) ∧ Below w.heap.size w w' := by
  have x0 := Blk.new w 24 (sA ⟨0, m, v, d, h, i, s, 0⟩)
  have hb0 := (Below.refl w.heap.size w).alloc (Nat.le_refl _) (.cells (sA ⟨0, m, v, d, h, i, s, 0⟩) 24)
  have c1 := fun w => rnum40 (m : Int) w ⟨by omega, by omega⟩
  have c2 := fun w => rnum40 (d : Int) w ⟨by omega, by omega⟩
  have c3 := fun w => rnum40 (v : Int) w ⟨by omega, by omega⟩
  have c4 := fun w => rnum40 (h : Int) w ⟨by omega, by omega⟩
  have c5 := fun w => rtwo_any i w hi
  have c6 := fun w => rtwo_any s w hs
  simp only [Int.toNat_natCast] at c1 c2 c3 c4
  have HP0 : ⟨#[77]⟩ ++ B (numT m) ++ ⟨#[46]⟩ ++ B (numT d) ++ ⟨#[46]⟩ ++ B (numT v) = B (77 :: (numT m ++ 46 :: (numT d ++ 46 :: numT v))) := by
    apply ByteArray.ext; simp [ByteArray.data_append]
  have HS0 : B (stT ⟨0, m, v, d, h, i, s, 0⟩) = B (77 :: (numT m ++ 46 :: (numT d ++ 46 :: numT v))) ++ B (clT ⟨0, m, v, d, h, i, s, 0⟩) := by
    unfold stT
    simp only [Int.toNat_natCast]
    apply ByteArray.ext; simp [ByteArray.data_append]
  have z0 : (B (77 :: (numT m ++ 46 :: (numT d ++ 46 :: numT v)))).size ≤ 9 := by
    rw [B_len]; have := (num_len m).2; have := (num_len d).2; have := (num_len v).2
    simp only [List.length_cons, List.length_append]; omega
  have z1 : (B (numT m)).size ≤ 2 := by rw [B_len]; exact (num_len m).2
  have z2 : (B (numT d)).size ≤ 2 := by rw [B_len]; exact (num_len d).2
  have z3 : (B (numT v)).size ≤ 2 := by rw [B_len]; exact (num_len v).2
  have z4 : (B (numT h)).size ≤ 2 := by rw [B_len]; exact (num_len h).2
  have z5 : (B [UInt8.ofNat (48 + i / 10 % 10), UInt8.ofNat (48 + i % 10)]).size = 2 := rfl
  have z6 : (B [UInt8.ofNat (48 + s / 10 % 10), UInt8.ofNat (48 + s % 10)]).size = 2 := rfl
  have HC0 : B (clT ⟨0, m, v, d, h, i, s, 0⟩) = if h = 2 ∧ i = 0 ∧ s = 0 then ⟨#[]⟩ else ⟨#[47]⟩ ++ B (numT h) ++ (if i = 0 ∧ s = 0 then ⟨#[]⟩ else ⟨#[58]⟩ ++ B [UInt8.ofNat (48 + i / 10 % 10), UInt8.ofNat (48 + i % 10)]) ++ (if s = 0 then ⟨#[]⟩ else ⟨#[58]⟩ ++ B [UInt8.ofNat (48 + s / 10 % 10), UInt8.ofNat (48 + s % 10)]) := by
    have e1 : ((h : Int) = 2 ∧ (i : Int) = 0 ∧ (s : Int) = 0) ↔ (h = 2 ∧ i = 0 ∧ s = 0) := by omega
    have e2 : ((i : Int) = 0 ∧ (s : Int) = 0) ↔ (i = 0 ∧ s = 0) := by omega
    have e3 : ((s : Int) = 0) ↔ (s = 0) := by omega
    unfold clT
    rw [Int.toNat_natCast, Int.toNat_natCast, Int.toNat_natCast]
    by_cases q1 : h = 2 ∧ i = 0 ∧ s = 0
    · rw [if_pos q1, if_pos (e1.2 q1)]
    · rw [if_neg q1, if_neg (fun k => q1 (e1.1 k))]
      by_cases q2 : i = 0 ∧ s = 0
      · rw [if_pos q2, if_pos (e2.2 q2), if_pos q2.2, if_pos (e3.2 q2.2)]; apply ByteArray.ext; simp [ByteArray.data_append]
      · rw [if_neg q2, if_neg (fun k => q2 (e2.1 k))]
        by_cases q3 : s = 0
        · rw [if_pos q3, if_pos (e3.2 q3)]; apply ByteArray.ext; simp [ByteArray.data_append, twoT]
        · rw [if_neg q3, if_neg (fun k => q3 (e3.1 k))]; apply ByteArray.ext; simp [ByteArray.data_append, twoT]
  generalize B (stT ⟨0, m, v, d, h, i, s, 0⟩) = R at *
  generalize B (clT ⟨0, m, v, d, h, i, s, 0⟩) = R2 at *
  generalize B (77 :: (numT m ++ 46 :: (numT d ++ 46 :: numT v))) = P at *
  generalize B (numT m) = s1 at *
  generalize B (numT d) = s2 at *
  generalize B (numT v) = s3 at *
  generalize B (numT h) = s4 at *
  generalize B [UInt8.ofNat (48 + i / 10 % 10), UInt8.ofNat (48 + i % 10)] = s5 at *
  generalize B [UInt8.ofNat (48 + s / 10 % 10), UInt8.ofNat (48 + s % 10)] = s6 at *
  have HP := Lib.hid HP0; have HS := Lib.hid HS0; have HC := Lib.hid HC0
  clear HP0 HS0 HC0
  go_enter Tryd.func25, Tryd.ntmps25
  go_upto_region 1 with fail
  generalize w.alloc (.cells _ 24) = W0 at *
  go_cut [3] (fun t wx => t = .string P ∧ Blk wx w.heap.size 24 (sA ⟨0, m, v, d, h, i, s, 0⟩) ∧ Below w.heap.size w wx)
  case first =>
    have wm : IntKind.i64.wrap (m : Int) = (m : Int) := by simp [IntKind.wrap, IntKind.bits, IntKind.signed]; omega
    have wd : IntKind.i64.wrap (d : Int) = (d : Int) := by simp [IntKind.wrap, IntKind.bits, IntKind.signed]; omega
    have wv : IntKind.i64.wrap (v : Int) = (v : Int) := by simp [IntKind.wrap, IntKind.bits, IntKind.signed]; omega
    have k0 : ¬ 9223372036854775807 < 1 + s1.size := by omega
    have k1 : ¬ 9223372036854775807 < 1 + s1.size + 1 := by omega
    have k2 : ¬ 9223372036854775807 < 1 + s1.size + 1 + s2.size := by omega
    have k3 : ¬ 9223372036854775807 < 1 + s1.size + 1 + s2.size + 1 := by omega
    have k4 : ¬ 9223372036854775807 < 1 + s1.size + 1 + s2.size + 1 + s3.size := by omega
    have HPP : Value.string (⟨#[77]⟩ ++ s1 ++ ⟨#[46]⟩ ++ s2 ++ ⟨#[46]⟩ ++ s3) = Value.string P := by rw [HP.out]
    have HP := Lib.hid HPP; clear HPP
    refine wp_region_held_drew (S := fun w' : World => w'.cell? ⟨w.heap.size, 1, none⟩ = some (.int .u16 (m : Int)) ∧ w'.cell? ⟨w.heap.size, 3, none⟩ = some (.int .u16 (d : Int)) ∧ w'.cell? ⟨w.heap.size, 2, none⟩ = some (.int .u16 (v : Int)) ∧ Blk w' w.heap.size 24 (sA ⟨0, m, v, d, h, i, s, 0⟩) ∧ Below w.heap.size w w') (by kernel_rfl) (st_mk (show Blk W0.drew w.heap.size 24 (sA ⟨0, m, v, d, h, i, s, 0⟩) from x0) hb0.drew) (fun hHeld => ?_)
    refine wpAnyH_take (i := 0) (oi := { dst := some 4, op := Op.fieldAddr 24 (Operand.tmp 1) 1, type := 0, pos := "ref.go:51", after := #[], guard := none }) (v := ?_) rfl (by kernel_rfl) (by kernel_rfl) (by kernel_rfl) (fun _ _ _ h => h) (Or.inl ⟨by rfl, ?_⟩) hHeld ?_
    rotate_left
    · intro w hSw
      try dsimp only at hSw
      go_simp
      try with_reducible rfl
    try simp only [Act.put, List.setIfInBounds_toArray, List.set_cons_zero, List.set_cons_succ]
    refine wpAnyH_take (i := 1) (oi := { dst := some 5, op := Op.load 22 (Operand.tmp 4), type := 22, pos := "ref.go:51", after := #[{ on := 0, ground := Ground.data }], guard := none }) (v := ?_) rfl (by kernel_rfl) (by kernel_rfl) (by kernel_rfl) (fun _ _ _ h => h) (Or.inl ⟨by rfl, ?_⟩) hHeld ?_
    rotate_left
    · intro w hSw
      try dsimp only at hSw
      go_simp
      try with_reducible rfl
    try simp only [Act.put, List.setIfInBounds_toArray, List.set_cons_zero, List.set_cons_succ]
    refine wpAnyH_take (i := 2) (oi := { dst := some 6, op := Op.convert 22 2 (Operand.tmp 5), type := 2, pos := "ref.go:51", after := #[{ on := 1, ground := Ground.data }], guard := none }) (v := ?_) rfl (by kernel_rfl) (by kernel_rfl) (by kernel_rfl) (fun _ _ _ h => h) (Or.inl ⟨by rfl, ?_⟩) hHeld ?_
    rotate_left
    · intro w hSw
      try dsimp only at hSw
      go_simp
      try with_reducible rfl
    try simp only [Act.put, List.setIfInBounds_toArray, List.set_cons_zero, List.set_cons_succ]
    refine wpAnyH_take (i := 6) (oi := { dst := some 10, op := Op.fieldAddr 24 (Operand.tmp 1) 3, type := 0, pos := "ref.go:51", after := #[], guard := none }) (v := ?_) rfl (by kernel_rfl) (by kernel_rfl) (by kernel_rfl) (fun _ _ _ h => h) (Or.inl ⟨by rfl, ?_⟩) hHeld ?_
    rotate_left
    · intro w hSw
      try dsimp only at hSw
      go_simp
      try with_reducible rfl
    try simp only [Act.put, List.setIfInBounds_toArray, List.set_cons_zero, List.set_cons_succ]
    refine wpAnyH_take (i := 7) (oi := { dst := some 11, op := Op.load 22 (Operand.tmp 10), type := 22, pos := "ref.go:51", after := #[{ on := 6, ground := Ground.data }], guard := none }) (v := ?_) rfl (by kernel_rfl) (by kernel_rfl) (by kernel_rfl) (fun _ _ _ h => h) (Or.inl ⟨by rfl, ?_⟩) hHeld ?_
    rotate_left
    · intro w hSw
      try dsimp only at hSw
      go_simp
      try with_reducible rfl
    try simp only [Act.put, List.setIfInBounds_toArray, List.set_cons_zero, List.set_cons_succ]
    refine wpAnyH_take (i := 8) (oi := { dst := some 12, op := Op.convert 22 2 (Operand.tmp 11), type := 2, pos := "ref.go:51", after := #[{ on := 7, ground := Ground.data }], guard := none }) (v := ?_) rfl (by kernel_rfl) (by kernel_rfl) (by kernel_rfl) (fun _ _ _ h => h) (Or.inl ⟨by rfl, ?_⟩) hHeld ?_
    rotate_left
    · intro w hSw
      try dsimp only at hSw
      go_simp
      try with_reducible rfl
    try simp only [Act.put, List.setIfInBounds_toArray, List.set_cons_zero, List.set_cons_succ]
    refine wpAnyH_take (i := 12) (oi := { dst := some 16, op := Op.fieldAddr 24 (Operand.tmp 1) 2, type := 0, pos := "ref.go:51", after := #[], guard := none }) (v := ?_) rfl (by kernel_rfl) (by kernel_rfl) (by kernel_rfl) (fun _ _ _ h => h) (Or.inl ⟨by rfl, ?_⟩) hHeld ?_
    rotate_left
    · intro w hSw
      try dsimp only at hSw
      go_simp
      try with_reducible rfl
    try simp only [Act.put, List.setIfInBounds_toArray, List.set_cons_zero, List.set_cons_succ]
    refine wpAnyH_take (i := 13) (oi := { dst := some 17, op := Op.load 22 (Operand.tmp 16), type := 22, pos := "ref.go:51", after := #[{ on := 12, ground := Ground.data }], guard := none }) (v := ?_) rfl (by kernel_rfl) (by kernel_rfl) (by kernel_rfl) (fun _ _ _ h => h) (Or.inl ⟨by rfl, ?_⟩) hHeld ?_
    rotate_left
    · intro w hSw
      try dsimp only at hSw
      go_simp
      try with_reducible rfl
    try simp only [Act.put, List.setIfInBounds_toArray, List.set_cons_zero, List.set_cons_succ]
    refine wpAnyH_take (i := 14) (oi := { dst := some 18, op := Op.convert 22 2 (Operand.tmp 17), type := 2, pos := "ref.go:51", after := #[{ on := 13, ground := Ground.data }], guard := none }) (v := ?_) rfl (by kernel_rfl) (by kernel_rfl) (by kernel_rfl) (fun _ _ _ h => h) (Or.inl ⟨by rfl, ?_⟩) hHeld ?_
    rotate_left
    · intro w hSw
      try dsimp only at hSw
      go_simp
      try with_reducible rfl
    try simp only [Act.put, List.setIfInBounds_toArray, List.set_cons_zero, List.set_cons_succ]
    refine wpAnyH_ready (rs := [3]) (by kernel_rfl) (by simp) ?_
    refine AllReadyH.cons (o := { dst := some 7, op := Op.call { callee := Callee.value (Operand.func 53), args := #[Operand.tmp 6], argTypes := #[2] }, type := 9, pos := "ref.go:51", after := #[{ on := 2, ground := Ground.data }], guard := none }) rfl (fun K hK => ?_) (AllReadyH.nil)
    go_simp
    refine (c1 _).mono ?_; rintro e w_1 ⟨rfl, hb_1⟩
    try go_wp2_with fail
    refine hK.out _ _ (st_on hHeld hb_1) (fun hHeld2 => ?_)
    clear hK K hHeld; have hHeld := hHeld2; clear hHeld2
    try simp only [Act.put, List.setIfInBounds_toArray, List.set_cons_zero, List.set_cons_succ]
    refine wpAnyH_take (i := 4) (oi := { dst := some 8, op := Op.binOp BinOp.add 9 (Operand.const (Value.string { data := #[77] })) (Operand.tmp 7) 9, type := 9, pos := "ref.go:51", after := #[{ on := 3, ground := Ground.data }], guard := none }) (v := ?_) rfl (by kernel_rfl) (by kernel_rfl) (by kernel_rfl) (fun _ _ _ h => h) (Or.inl ⟨by rfl, ?_⟩) hHeld ?_
    rotate_left
    · intro w hSw
      try dsimp only at hSw
      go_simp
      try with_reducible rfl
    try simp only [Act.put, List.setIfInBounds_toArray, List.set_cons_zero, List.set_cons_succ]
    refine wpAnyH_take (i := 5) (oi := { dst := some 9, op := Op.binOp BinOp.add 9 (Operand.tmp 8) (Operand.const (Value.string { data := #[46] })) 9, type := 9, pos := "ref.go:51", after := #[{ on := 4, ground := Ground.data }], guard := none }) (v := ?_) rfl (by kernel_rfl) (by kernel_rfl) (by kernel_rfl) (fun _ _ _ h => h) (Or.inl ⟨by rfl, ?_⟩) hHeld ?_
    rotate_left
    · intro w hSw
      try dsimp only at hSw
      go_simp
      try with_reducible rfl
    try simp only [Act.put, List.setIfInBounds_toArray, List.set_cons_zero, List.set_cons_succ]
    refine wpAnyH_ready (rs := [9]) (by kernel_rfl) (by simp) ?_
    refine AllReadyH.cons (o := { dst := some 13, op := Op.call { callee := Callee.value (Operand.func 53), args := #[Operand.tmp 12], argTypes := #[2] }, type := 9, pos := "ref.go:51", after := #[{ on := 8, ground := Ground.data }, { on := 3, ground := Ground.chain }], guard := none }) rfl (fun K hK => ?_) (AllReadyH.nil)
    go_simp
    refine (c2 _).mono ?_; rintro e w_2 ⟨rfl, hb_2⟩
    try go_wp2_with fail
    refine hK.out _ _ (st_on hHeld hb_2) (fun hHeld2 => ?_)
    clear hK K hHeld; have hHeld := hHeld2; clear hHeld2
    try simp only [Act.put, List.setIfInBounds_toArray, List.set_cons_zero, List.set_cons_succ]
    refine wpAnyH_take (i := 10) (oi := { dst := some 14, op := Op.binOp BinOp.add 9 (Operand.tmp 9) (Operand.tmp 13) 9, type := 9, pos := "ref.go:51", after := #[{ on := 5, ground := Ground.data }, { on := 9, ground := Ground.data }], guard := none }) (v := ?_) rfl (by kernel_rfl) (by kernel_rfl) (by kernel_rfl) (fun _ _ _ h => h) (Or.inl ⟨by rfl, ?_⟩) hHeld ?_
    rotate_left
    · intro w hSw
      try dsimp only at hSw
      go_simp
      try with_reducible rfl
    try simp only [Act.put, List.setIfInBounds_toArray, List.set_cons_zero, List.set_cons_succ]
    refine wpAnyH_take (i := 11) (oi := { dst := some 15, op := Op.binOp BinOp.add 9 (Operand.tmp 14) (Operand.const (Value.string { data := #[46] })) 9, type := 9, pos := "ref.go:51", after := #[{ on := 10, ground := Ground.data }], guard := none }) (v := ?_) rfl (by kernel_rfl) (by kernel_rfl) (by kernel_rfl) (fun _ _ _ h => h) (Or.inl ⟨by rfl, ?_⟩) hHeld ?_
    rotate_left
    · intro w hSw
      try dsimp only at hSw
      go_simp
      try with_reducible rfl
    try simp only [Act.put, List.setIfInBounds_toArray, List.set_cons_zero, List.set_cons_succ]
    refine wpAnyH_ready (rs := [15]) (by kernel_rfl) (by simp) ?_
    refine AllReadyH.cons (o := { dst := some 19, op := Op.call { callee := Callee.value (Operand.func 53), args := #[Operand.tmp 18], argTypes := #[2] }, type := 9, pos := "ref.go:51", after := #[{ on := 14, ground := Ground.data }, { on := 9, ground := Ground.chain }], guard := none }) rfl (fun K hK => ?_) (AllReadyH.nil)
    go_simp
    refine (c3 _).mono ?_; rintro e w_3 ⟨rfl, hb_3⟩
    try go_wp2_with fail
    refine hK.out _ _ (st_on hHeld hb_3) (fun hHeld2 => ?_)
    clear hK K hHeld; have hHeld := hHeld2; clear hHeld2
    try simp only [Act.put, List.setIfInBounds_toArray, List.set_cons_zero, List.set_cons_succ]
    refine wpAnyH_take (i := 16) (oi := { dst := some 20, op := Op.binOp BinOp.add 9 (Operand.tmp 15) (Operand.tmp 19) 9, type := 9, pos := "ref.go:51", after := #[{ on := 11, ground := Ground.data }, { on := 15, ground := Ground.data }], guard := none }) (v := ?_) rfl (by kernel_rfl) (by kernel_rfl) (by kernel_rfl) (fun _ _ _ h => h) (Or.inl ⟨by rfl, ?_⟩) hHeld ?_
    rotate_left
    · intro w hSw
      try dsimp only at hSw
      go_simp
      try with_reducible rfl
    try simp only [Act.put, List.setIfInBounds_toArray, List.set_cons_zero, List.set_cons_succ]
    refine wpAnyH_take (i := 17) (oi := { dst := some 3, op := Op.assign (Operand.tmp 20), type := 9, pos := "ref.go:51", after := #[{ on := 16, ground := Ground.data }, { on := 15, ground := Ground.chain }, { on := 0, ground := Ground.phase }, { on := 1, ground := Ground.phase }, { on := 2, ground := Ground.phase }, { on := 3, ground := Ground.phase }, { on := 4, ground := Ground.phase }, { on := 5, ground := Ground.phase }, { on := 6, ground := Ground.phase }, { on := 7, ground := Ground.phase }, { on := 8, ground := Ground.phase }, { on := 9, ground := Ground.phase }, { on := 10, ground := Ground.phase }, { on := 11, ground := Ground.phase }, { on := 12, ground := Ground.phase }, { on := 13, ground := Ground.phase }, { on := 14, ground := Ground.phase }, { on := 15, ground := Ground.phase }, { on := 16, ground := Ground.phase }], guard := none }) (v := ?_) rfl (by kernel_rfl) (by kernel_rfl) (by kernel_rfl) (fun _ _ _ h => h) (Or.inl ⟨by rfl, ?_⟩) hHeld ?_
    rotate_left
    · intro w hSw
      try dsimp only at hSw
      go_simp
      try with_reducible rfl
    try simp only [Act.put, List.setIfInBounds_toArray, List.set_cons_zero, List.set_cons_succ]
    refine wpAnyH_done (by kernel_rfl) ?_ _
    go_wp2_with fail
    go_meet
    exact ⟨HP.out, hHeld.2.2.2.1, hHeld.2.2.2.2⟩
  case rest =>
    obtain ⟨rfl, x0, hb0⟩ := hcut
    have wh : IntKind.i64.wrap (h : Int) = (h : Int) := by simp [IntKind.wrap, IntKind.bits, IntKind.signed]; omega
    have wi : IntKind.i64.wrap (i : Int) = (i : Int) := by simp [IntKind.wrap, IntKind.bits, IntKind.signed]; omega
    have ws : IntKind.i64.wrap (s : Int) = (s : Int) := by simp [IntKind.wrap, IntKind.bits, IntKind.signed]; omega
    clear c1 c2 c3 HP z1 z2 z3
    have cell4 : wc.cell? ⟨w.heap.size, 4, none⟩ = some (.int .u16 (h : Int)) := x0.cell 4
    have cell5 : wc.cell? ⟨w.heap.size, 5, none⟩ = some (.int .u16 (i : Int)) := x0.cell 5
    have cell6 : wc.cell? ⟨w.heap.size, 6, none⟩ = some (.int .u16 (s : Int)) := x0.cell 6
    have hw : (h = 2 ∧ i = 0 ∧ s = 0) ∨ (h ≠ 2 ∧ i = 0 ∧ s = 0) ∨ (h ≠ 2 ∧ i = 0 ∧ s ≠ 0) ∨ (h ≠ 2 ∧ i ≠ 0 ∧ s = 0) ∨ (h ≠ 2 ∧ i ≠ 0 ∧ s ≠ 0) ∨ (h = 2 ∧ i ≠ 0 ∧ s = 0) ∨ (h = 2 ∧ i ≠ 0 ∧ s ≠ 0) ∨ (h = 2 ∧ i = 0 ∧ s ≠ 0) := by omega
    rcases hw with ⟨q4, q5, q6⟩ | ⟨q4, q5, q6⟩ | ⟨q4, q5, q6⟩ | ⟨q4, q5, q6⟩ | ⟨q4, q5, q6⟩ | ⟨q4, q5, q6⟩ | ⟨q4, q5, q6⟩ | ⟨q4, q5, q6⟩
    · skip
      have f4 : ((h : Int) == 2) = true := by rw [beq_iff_eq]; omega
      have f5 : ((i : Int) == 0) = true := by rw [beq_iff_eq]; omega
      have f6 : ((s : Int) == 0) = true := by rw [beq_iff_eq]; omega
      have HF := Lib.hid (show R = P by rw [HS.out, HC.out, if_pos ⟨q4, q5, q6⟩, app_emp])
      clear q4 q5 q6 HC HS hm hd hv hh hi hs
      generalize (h : Int) = h at *
      generalize (i : Int) = i at *
      generalize (s : Int) = s at *
      go_wp2_with fail
      go_ret
      exact ⟨by rw [HF.out]; rfl, hb0⟩
    · skip
      have f4 : ((h : Int) == 2) = false := by rw [beq_eq_false_iff_ne]; omega
      have HF := Lib.hid (show R = P ++ (⟨#[47]⟩ ++ s4) by rw [HS.out, HC.out, if_neg (fun q => q4 q.1), if_pos ⟨q5, q6⟩, if_pos q6]; simp only [ByteArray.append_assoc, app_emp])
      have gi : ¬ (0 : Int) < (i : Int) := by omega
      have gs : ¬ (0 : Int) < (s : Int) := by omega
      clear q4 q5 q6 HC HS hm hd hv hh hi hs
      generalize (h : Int) = h at *
      generalize (i : Int) = i at *
      generalize (s : Int) = s at *
      go_wp2_with fail
      refine (c4 _).mono ?_; rintro e W4 ⟨rfl, hb⟩
      replace x0 := x0.below hb x0.lt; replace hb0 := hb0.trans (hb.mono hb0.size)
      clear cell4 cell5 cell6 hb
      have cell4 : W4.cell? ⟨w.heap.size, 4, none⟩ = some (.int .u16 h) := x0.cell 4
      have cell5 : W4.cell? ⟨w.heap.size, 5, none⟩ = some (.int .u16 i) := x0.cell 5
      have cell6 : W4.cell? ⟨w.heap.size, 6, none⟩ = some (.int .u16 s) := x0.cell 6
      go_wp2_with fail
      go_ret
      exact ⟨by rw [HF.out]; rfl, hb0⟩
    · skip
      have f4 : ((h : Int) == 2) = false := by rw [beq_eq_false_iff_ne]; omega
      have HF := Lib.hid (show R = P ++ (⟨#[47]⟩ ++ s4) ++ (⟨#[58]⟩ ++ s5) ++ (⟨#[58]⟩ ++ s6) by rw [HS.out, HC.out, if_neg (fun q => q4 q.1), if_neg (fun q => q6 q.2), if_neg q6]; simp only [ByteArray.append_assoc, app_emp])
      have gi : ¬ (0 : Int) < (i : Int) := by omega
      have gs : (0 : Int) < (s : Int) := by omega
      clear q4 q5 q6 HC HS hm hd hv hh hi hs
      generalize (h : Int) = h at *
      generalize (i : Int) = i at *
      generalize (s : Int) = s at *
      go_wp2_with fail
      refine (c4 _).mono ?_; rintro e W4 ⟨rfl, hb⟩
      replace x0 := x0.below hb x0.lt; replace hb0 := hb0.trans (hb.mono hb0.size)
      clear cell4 cell5 cell6 hb
      have cell4 : W4.cell? ⟨w.heap.size, 4, none⟩ = some (.int .u16 h) := x0.cell 4
      have cell5 : W4.cell? ⟨w.heap.size, 5, none⟩ = some (.int .u16 i) := x0.cell 5
      have cell6 : W4.cell? ⟨w.heap.size, 6, none⟩ = some (.int .u16 s) := x0.cell 6
      go_wp2_with fail
      refine (c5 _).mono ?_; rintro e W5 ⟨rfl, hb⟩
      replace x0 := x0.below hb x0.lt; replace hb0 := hb0.trans (hb.mono hb0.size)
      clear cell4 cell5 cell6 hb
      have cell4 : W5.cell? ⟨w.heap.size, 4, none⟩ = some (.int .u16 h) := x0.cell 4
      have cell5 : W5.cell? ⟨w.heap.size, 5, none⟩ = some (.int .u16 i) := x0.cell 5
      have cell6 : W5.cell? ⟨w.heap.size, 6, none⟩ = some (.int .u16 s) := x0.cell 6
      go_wp2_with fail
      refine (c6 _).mono ?_; rintro e W6 ⟨rfl, hb⟩
      replace x0 := x0.below hb x0.lt; replace hb0 := hb0.trans (hb.mono hb0.size)
      clear cell4 cell5 cell6 hb
      have cell4 : W6.cell? ⟨w.heap.size, 4, none⟩ = some (.int .u16 h) := x0.cell 4
      have cell5 : W6.cell? ⟨w.heap.size, 5, none⟩ = some (.int .u16 i) := x0.cell 5
      have cell6 : W6.cell? ⟨w.heap.size, 6, none⟩ = some (.int .u16 s) := x0.cell 6
      go_wp2_with fail
      go_ret
      exact ⟨by rw [HF.out]; rfl, hb0⟩
    · skip
      have f4 : ((h : Int) == 2) = false := by rw [beq_eq_false_iff_ne]; omega
      have HF := Lib.hid (show R = P ++ (⟨#[47]⟩ ++ s4) ++ (⟨#[58]⟩ ++ s5) by rw [HS.out, HC.out, if_neg (fun q => q4 q.1), if_neg (fun q => q5 q.1), if_pos q6]; simp only [ByteArray.append_assoc, app_emp])
      have gi : (0 : Int) < (i : Int) := by omega
      have gs : ¬ (0 : Int) < (s : Int) := by omega
      clear q4 q5 q6 HC HS hm hd hv hh hi hs
      generalize (h : Int) = h at *
      generalize (i : Int) = i at *
      generalize (s : Int) = s at *
      go_wp2_with fail
      refine (c4 _).mono ?_; rintro e W4 ⟨rfl, hb⟩
      replace x0 := x0.below hb x0.lt; replace hb0 := hb0.trans (hb.mono hb0.size)
      clear cell4 cell5 cell6 hb
      have cell4 : W4.cell? ⟨w.heap.size, 4, none⟩ = some (.int .u16 h) := x0.cell 4
      have cell5 : W4.cell? ⟨w.heap.size, 5, none⟩ = some (.int .u16 i) := x0.cell 5
      have cell6 : W4.cell? ⟨w.heap.size, 6, none⟩ = some (.int .u16 s) := x0.cell 6
      go_wp2_with fail
      refine (c5 _).mono ?_; rintro e W5 ⟨rfl, hb⟩
      replace x0 := x0.below hb x0.lt; replace hb0 := hb0.trans (hb.mono hb0.size)
      clear cell4 cell5 cell6 hb
      have cell4 : W5.cell? ⟨w.heap.size, 4, none⟩ = some (.int .u16 h) := x0.cell 4
      have cell5 : W5.cell? ⟨w.heap.size, 5, none⟩ = some (.int .u16 i) := x0.cell 5
      have cell6 : W5.cell? ⟨w.heap.size, 6, none⟩ = some (.int .u16 s) := x0.cell 6
      go_wp2_with fail
      go_ret
      exact ⟨by rw [HF.out]; rfl, hb0⟩
    · skip
      have f4 : ((h : Int) == 2) = false := by rw [beq_eq_false_iff_ne]; omega
      have HF := Lib.hid (show R = P ++ (⟨#[47]⟩ ++ s4) ++ (⟨#[58]⟩ ++ s5) ++ (⟨#[58]⟩ ++ s6) by rw [HS.out, HC.out, if_neg (fun q => q4 q.1), if_neg (fun q => q5 q.1), if_neg q6]; simp only [ByteArray.append_assoc, app_emp])
      have gi : (0 : Int) < (i : Int) := by omega
      have gs : (0 : Int) < (s : Int) := by omega
      clear q4 q5 q6 HC HS hm hd hv hh hi hs
      generalize (h : Int) = h at *
      generalize (i : Int) = i at *
      generalize (s : Int) = s at *
      go_wp2_with fail
      refine (c4 _).mono ?_; rintro e W4 ⟨rfl, hb⟩
      replace x0 := x0.below hb x0.lt; replace hb0 := hb0.trans (hb.mono hb0.size)
      clear cell4 cell5 cell6 hb
      have cell4 : W4.cell? ⟨w.heap.size, 4, none⟩ = some (.int .u16 h) := x0.cell 4
      have cell5 : W4.cell? ⟨w.heap.size, 5, none⟩ = some (.int .u16 i) := x0.cell 5
      have cell6 : W4.cell? ⟨w.heap.size, 6, none⟩ = some (.int .u16 s) := x0.cell 6
      go_wp2_with fail
      refine (c5 _).mono ?_; rintro e W5 ⟨rfl, hb⟩
      replace x0 := x0.below hb x0.lt; replace hb0 := hb0.trans (hb.mono hb0.size)
      clear cell4 cell5 cell6 hb
      have cell4 : W5.cell? ⟨w.heap.size, 4, none⟩ = some (.int .u16 h) := x0.cell 4
      have cell5 : W5.cell? ⟨w.heap.size, 5, none⟩ = some (.int .u16 i) := x0.cell 5
      have cell6 : W5.cell? ⟨w.heap.size, 6, none⟩ = some (.int .u16 s) := x0.cell 6
      go_wp2_with fail
      refine (c6 _).mono ?_; rintro e W6 ⟨rfl, hb⟩
      replace x0 := x0.below hb x0.lt; replace hb0 := hb0.trans (hb.mono hb0.size)
      clear cell4 cell5 cell6 hb
      have cell4 : W6.cell? ⟨w.heap.size, 4, none⟩ = some (.int .u16 h) := x0.cell 4
      have cell5 : W6.cell? ⟨w.heap.size, 5, none⟩ = some (.int .u16 i) := x0.cell 5
      have cell6 : W6.cell? ⟨w.heap.size, 6, none⟩ = some (.int .u16 s) := x0.cell 6
      go_wp2_with fail
      go_ret
      exact ⟨by rw [HF.out]; rfl, hb0⟩
    · skip
      have f4 : ((h : Int) == 2) = true := by rw [beq_iff_eq]; omega
      have f5 : ((i : Int) == 0) = false := by rw [beq_eq_false_iff_ne]; omega
      have HF := Lib.hid (show R = P ++ (⟨#[47]⟩ ++ s4) ++ (⟨#[58]⟩ ++ s5) by rw [HS.out, HC.out, if_neg (fun q => q5 q.2.1), if_neg (fun q => q5 q.1), if_pos q6]; simp only [ByteArray.append_assoc, app_emp])
      have gi : (0 : Int) < (i : Int) := by omega
      have gs : ¬ (0 : Int) < (s : Int) := by omega
      clear q4 q5 q6 HC HS hm hd hv hh hi hs
      generalize (h : Int) = h at *
      generalize (i : Int) = i at *
      generalize (s : Int) = s at *
      go_wp2_with fail
      refine (c4 _).mono ?_; rintro e W4 ⟨rfl, hb⟩
      replace x0 := x0.below hb x0.lt; replace hb0 := hb0.trans (hb.mono hb0.size)
      clear cell4 cell5 cell6 hb
      have cell4 : W4.cell? ⟨w.heap.size, 4, none⟩ = some (.int .u16 h) := x0.cell 4
      have cell5 : W4.cell? ⟨w.heap.size, 5, none⟩ = some (.int .u16 i) := x0.cell 5
      have cell6 : W4.cell? ⟨w.heap.size, 6, none⟩ = some (.int .u16 s) := x0.cell 6
      go_wp2_with fail
      refine (c5 _).mono ?_; rintro e W5 ⟨rfl, hb⟩
      replace x0 := x0.below hb x0.lt; replace hb0 := hb0.trans (hb.mono hb0.size)
      clear cell4 cell5 cell6 hb
      have cell4 : W5.cell? ⟨w.heap.size, 4, none⟩ = some (.int .u16 h) := x0.cell 4
      have cell5 : W5.cell? ⟨w.heap.size, 5, none⟩ = some (.int .u16 i) := x0.cell 5
      have cell6 : W5.cell? ⟨w.heap.size, 6, none⟩ = some (.int .u16 s) := x0.cell 6
      go_wp2_with fail
      go_ret
      exact ⟨by rw [HF.out]; rfl, hb0⟩
    · skip
      have f4 : ((h : Int) == 2) = true := by rw [beq_iff_eq]; omega
      have f5 : ((i : Int) == 0) = false := by rw [beq_eq_false_iff_ne]; omega
      have HF := Lib.hid (show R = P ++ (⟨#[47]⟩ ++ s4) ++ (⟨#[58]⟩ ++ s5) ++ (⟨#[58]⟩ ++ s6) by rw [HS.out, HC.out, if_neg (fun q => q5 q.2.1), if_neg (fun q => q5 q.1), if_neg q6]; simp only [ByteArray.append_assoc, app_emp])
      have gi : (0 : Int) < (i : Int) := by omega
      have gs : (0 : Int) < (s : Int) := by omega
      clear q4 q5 q6 HC HS hm hd hv hh hi hs
      generalize (h : Int) = h at *
      generalize (i : Int) = i at *
      generalize (s : Int) = s at *
      go_wp2_with fail
      refine (c4 _).mono ?_; rintro e W4 ⟨rfl, hb⟩
      replace x0 := x0.below hb x0.lt; replace hb0 := hb0.trans (hb.mono hb0.size)
      clear cell4 cell5 cell6 hb
      have cell4 : W4.cell? ⟨w.heap.size, 4, none⟩ = some (.int .u16 h) := x0.cell 4
      have cell5 : W4.cell? ⟨w.heap.size, 5, none⟩ = some (.int .u16 i) := x0.cell 5
      have cell6 : W4.cell? ⟨w.heap.size, 6, none⟩ = some (.int .u16 s) := x0.cell 6
      go_wp2_with fail
      refine (c5 _).mono ?_; rintro e W5 ⟨rfl, hb⟩
      replace x0 := x0.below hb x0.lt; replace hb0 := hb0.trans (hb.mono hb0.size)
      clear cell4 cell5 cell6 hb
      have cell4 : W5.cell? ⟨w.heap.size, 4, none⟩ = some (.int .u16 h) := x0.cell 4
      have cell5 : W5.cell? ⟨w.heap.size, 5, none⟩ = some (.int .u16 i) := x0.cell 5
      have cell6 : W5.cell? ⟨w.heap.size, 6, none⟩ = some (.int .u16 s) := x0.cell 6
      go_wp2_with fail
      refine (c6 _).mono ?_; rintro e W6 ⟨rfl, hb⟩
      replace x0 := x0.below hb x0.lt; replace hb0 := hb0.trans (hb.mono hb0.size)
      clear cell4 cell5 cell6 hb
      have cell4 : W6.cell? ⟨w.heap.size, 4, none⟩ = some (.int .u16 h) := x0.cell 4
      have cell5 : W6.cell? ⟨w.heap.size, 5, none⟩ = some (.int .u16 i) := x0.cell 5
      have cell6 : W6.cell? ⟨w.heap.size, 6, none⟩ = some (.int .u16 s) := x0.cell 6
      go_wp2_with fail
      go_ret
      exact ⟨by rw [HF.out]; rfl, hb0⟩
    · skip
      have f4 : ((h : Int) == 2) = true := by rw [beq_iff_eq]; omega
      have f5 : ((i : Int) == 0) = true := by rw [beq_iff_eq]; omega
      have f6 : ((s : Int) == 0) = false := by rw [beq_eq_false_iff_ne]; omega
      have HF := Lib.hid (show R = P ++ (⟨#[47]⟩ ++ s4) ++ (⟨#[58]⟩ ++ s5) ++ (⟨#[58]⟩ ++ s6) by rw [HS.out, HC.out, if_neg (fun q => q6 q.2.2), if_neg (fun q => q6 q.2), if_neg q6]; simp only [ByteArray.append_assoc, app_emp])
      have gi : ¬ (0 : Int) < (i : Int) := by omega
      have gs : (0 : Int) < (s : Int) := by omega
      clear q4 q5 q6 HC HS hm hd hv hh hi hs
      generalize (h : Int) = h at *
      generalize (i : Int) = i at *
      generalize (s : Int) = s at *
      go_wp2_with fail
      refine (c4 _).mono ?_; rintro e W4 ⟨rfl, hb⟩
      replace x0 := x0.below hb x0.lt; replace hb0 := hb0.trans (hb.mono hb0.size)
      clear cell4 cell5 cell6 hb
      have cell4 : W4.cell? ⟨w.heap.size, 4, none⟩ = some (.int .u16 h) := x0.cell 4
      have cell5 : W4.cell? ⟨w.heap.size, 5, none⟩ = some (.int .u16 i) := x0.cell 5
      have cell6 : W4.cell? ⟨w.heap.size, 6, none⟩ = some (.int .u16 s) := x0.cell 6
      go_wp2_with fail
      refine (c5 _).mono ?_; rintro e W5 ⟨rfl, hb⟩
      replace x0 := x0.below hb x0.lt; replace hb0 := hb0.trans (hb.mono hb0.size)
      clear cell4 cell5 cell6 hb
      have cell4 : W5.cell? ⟨w.heap.size, 4, none⟩ = some (.int .u16 h) := x0.cell 4
      have cell5 : W5.cell? ⟨w.heap.size, 5, none⟩ = some (.int .u16 i) := x0.cell 5
      have cell6 : W5.cell? ⟨w.heap.size, 6, none⟩ = some (.int .u16 s) := x0.cell 6
      go_wp2_with fail
      refine (c6 _).mono ?_; rintro e W6 ⟨rfl, hb⟩
      replace x0 := x0.below hb x0.lt; replace hb0 := hb0.trans (hb.mono hb0.size)
      clear cell4 cell5 cell6 hb
      have cell4 : W6.cell? ⟨w.heap.size, 4, none⟩ = some (.int .u16 h) := x0.cell 4
      have cell5 : W6.cell? ⟨w.heap.size, 5, none⟩ = some (.int .u16 i) := x0.cell 5
      have cell6 : W6.cell? ⟨w.heap.size, 6, none⟩ = some (.int .u16 s) := x0.cell 6
      go_wp2_with fail
      go_ret
      exact ⟨by rw [HF.out]; rfl, hb0⟩
end Go.Proofs.YtgdgkgeoigljcaaDoor.Fo
