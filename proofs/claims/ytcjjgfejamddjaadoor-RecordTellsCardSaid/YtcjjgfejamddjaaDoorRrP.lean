/-
  THE REFERENCE, walked: the bytes of a record.
-/
import Derived.Test.YtcjjgfejamddjaaDoorRrB
import Derived.Test.YtcjjgfejamddjaaDoorLd
import Derived.Test.YtcjjgfejamddjaaDoorRecB
import Derived.Deep.RegionHeld3
import Derived.BigQuiet
namespace Go.Proofs.YtcjjgfejamddjaaDoor.Rf
open Go.ChangeShapes Go.WideShapes Go.ChangeAt Go.RowKit
open Go.Proofs.YtcjjgfejamddjaaDoor
open Go.Proofs.YtcjjgfejamddjaaDoor.Wd
open Go.Proofs.YtcjjgfejamddjaaDoor.Lit
open Go.Proofs.YtcjjgfejamddjaaDoor.Rec
open Go.Proofs.YtcjjgfejamddjaaDoor.Ld
set_option linter.unusedVariables false
def u8n (b : Int) : Nat := (b % 18446744073709551616).toNat
theorem u8n_lt (b : Int) : u8n b < 18446744073709551616 := by unfold u8n; omega
theorem wrap_u8n (b : Int) : IntKind.u64.wrap b = (u8n b : Int) := by rw [IntKind.wrap_u64]; unfold u8n; omega
theorem put_u8n (b : Int) : putL 4 (u8n b) = putN (u4 b) 4 := by
  unfold putL
  rw [if_pos (by decide)]
  show (List.range 4).map _ = (List.range 4).map _
  refine List.map_congr_left fun k hk => ?_
  have hk4 : k < 4 := List.mem_range.1 hk
  have h : u8n b % 4294967296 = u4 b := by unfold u8n u4; omega
  have hk5 : k = 0 ∨ k = 1 ∨ k = 2 ∨ k = 3 := by omega
  unfold byteN
  apply UInt8.toNat_inj.1
  rw [UInt8.toNat_ofNat', UInt8.toNat_ofNat']
  rcases hk5 with rfl | rfl | rfl | rfl <;> simp <;> omega
theorem bk_mk {b c d : Int} {p q : St} {w0 W : World} {g n : Nat} (h : Blk W g 53 (rcA b c d p q)) (hb : Below n w0 W) :
    Blk W g 53 (rcA b c d p q) ∧ W.cell? ⟨g, 0, none⟩ = some (.int .i32 b) ∧ W.cell? ⟨g, 1, none⟩ = some (.int .i32 c) ∧ W.cell? ⟨g, 2, none⟩ = some (.int .i32 d) ∧ Below n w0 W :=
  ⟨h, h.cell 0, h.cell 1, h.cell 2, hb⟩
theorem bk_on {b c d : Int} {p q : St} {w0 W W2 : World} {g n : Nat} (h : Blk W g 53 (rcA b c d p q) ∧ W.cell? ⟨g, 0, none⟩ = some (.int .i32 b) ∧ W.cell? ⟨g, 1, none⟩ = some (.int .i32 c) ∧ W.cell? ⟨g, 2, none⟩ = some (.int .i32 d) ∧ Below n w0 W) (hn : n ≤ W.heap.size) (hbl : Below W.heap.size W W2) :
    Blk W2 g 53 (rcA b c d p q) ∧ W2.cell? ⟨g, 0, none⟩ = some (.int .i32 b) ∧ W2.cell? ⟨g, 1, none⟩ = some (.int .i32 c) ∧ W2.cell? ⟨g, 2, none⟩ = some (.int .i32 d) ∧ Below n w0 W2 :=
  bk_mk (h.1.below hbl h.1.lt) (h.2.2.2.2.trans (hbl.mono hn))
theorem rbst (x : St) (w : World) (B : x.Bd) :
    Calls Tryd.prog 71 #[.agg (sA x)] w fun e w' => e = .returned (.string ⟨(encN 2 x.ns).toArray⟩) ∧ Below w.heap.size w w' := by
  obtain ⟨y, m, v, d, h, i, s, u⟩ := x
  obtain ⟨⟨a1, a2⟩, ⟨b1, b2⟩, ⟨c1, c2⟩, ⟨d1, d2⟩, ⟨e1, e2⟩, ⟨f1, f2⟩, ⟨g1, g2⟩, ⟨h1, h2⟩⟩ := B
  dsimp only at *
  obtain ⟨y, rfl⟩ := Int.eq_ofNat_of_zero_le a1
  obtain ⟨m, rfl⟩ := Int.eq_ofNat_of_zero_le b1
  obtain ⟨v, rfl⟩ := Int.eq_ofNat_of_zero_le c1
  obtain ⟨d, rfl⟩ := Int.eq_ofNat_of_zero_le d1
  obtain ⟨h, rfl⟩ := Int.eq_ofNat_of_zero_le e1
  obtain ⟨i, rfl⟩ := Int.eq_ofNat_of_zero_le f1
  obtain ⟨s, rfl⟩ := Int.eq_ofNat_of_zero_le g1
  obtain ⟨u, rfl⟩ := Int.eq_ofNat_of_zero_le h1
  exact Stp.rbytes_any y m v d h i s u w (by intro z hz; simp at hz; omega)
theorem put_sz (n : Nat) : (⟨(putL 4 n).toArray⟩ : ByteArray).size = 4 := by
  show (putL 4 n).toArray.size = 4; rw [List.size_toArray]; unfold putL; rw [if_pos (by decide)]; exact putN_len n 4
theorem enc_sz (x : St) : (⟨(encN 2 x.ns).toArray⟩ : ByteArray).size = 16 := by
  show (encN 2 x.ns).toArray.size = 16; rw [List.size_toArray, encN_len]; rfl
theorem rcB_cat (b c d : Int) (p q : St) : (⟨(putL 4 (u8n b)).toArray⟩ : ByteArray) ++ ⟨(putL 4 (u8n c)).toArray⟩ ++ ⟨(putL 4 (u8n d)).toArray⟩ ++ ⟨(encN 2 p.ns).toArray⟩ ++ ⟨(encN 2 q.ns).toArray⟩ = ⟨(rcB b c d p q).toArray⟩ := by
  apply ByteArray.ext
  apply Array.toList_inj.1
  simp only [ByteArray.data_append, Array.toList_append, put_u8n]
  unfold rcB
  simp [encN]
set_option maxRecDepth 20000 in
set_option maxHeartbeats 3200000 in
theorem rbytes_rc (b c d : Int) (p q : St) (w : World) (B : RBd b c d p q) :
    Calls Tryd.prog 39 #[rcV b c d p q] w fun e w' => e = .returned (.string ⟨(rcB b c d p q).toArray⟩) ∧ Below w.heap.size w w' := by
  have hb0 : Below w.heap.size w (w.alloc (.cells (rcA b c d p q) 53)) := (Below.refl _ _).alloc (Nat.le_refl _) _
  have x0 := Blk.new w 53 (rcA b c d p q)
  have h1 := fun w' => rput_any 4 (u8n b) w' (u8n_lt b)
  have h2 := fun w' => rput_any 4 (u8n c) w' (u8n_lt c)
  have h3 := fun w' => rput_any 4 (u8n d) w' (u8n_lt d)
  have h4 := fun w' => rbst p w' B.p
  have h5 := fun w' => rbst q w' B.q
  have hres := Lib.hid (rcB_cat b c d p q)
  have z1 := put_sz (u8n b)
  have z2 := put_sz (u8n c)
  have z3 := put_sz (u8n d)
  have z4 := enc_sz p
  have z5 := enc_sz q
  have q1 := wrap_u8n b
  have q2 := wrap_u8n c
  have q3 := wrap_u8n d
  generalize hs1 : (⟨(putL 4 (u8n b)).toArray⟩ : ByteArray) = s1 at *
  generalize hs2 : (⟨(putL 4 (u8n c)).toArray⟩ : ByteArray) = s2 at *
  generalize hs3 : (⟨(putL 4 (u8n d)).toArray⟩ : ByteArray) = s3 at *
  generalize hs4 : (⟨(encN 2 p.ns).toArray⟩ : ByteArray) = s4 at *
  generalize hs5 : (⟨(encN 2 q.ns).toArray⟩ : ByteArray) = s5 at *
  clear hs1 hs2 hs3 hs4 hs5
  generalize u8n b = b8 at *
  generalize u8n c = c8 at *
  generalize u8n d = d8 at *
  unfold rcA at x0 hb0
  go_enter Tryd.func39, Tryd.ntmps39
  go_upto_region 1 with fail
  generalize w.alloc (.cells #[.int .i32 b, .int .i32 c, .int .i32 d, .int .u16 p.y, .int .u16 p.m, .int .u16 p.v, .int .u16 p.d, .int .u16 p.h, .int .u16 p.i, .int .u16 p.s, .int .u16 p.u, .int .u16 q.y, .int .u16 q.m, .int .u16 q.v, .int .u16 q.d, .int .u16 q.h, .int .u16 q.i, .int .u16 q.s, .int .u16 q.u] 53) = W at *
  have x0d : Blk W.drew w.heap.size 53 (rcA b c d p q) := x0
  have ZZ := Lib.hid (bk_mk x0d hb0.drew)
  have hWs : w.heap.size ≤ W.heap.size := hb0.size
  clear x0 x0d hb0
  refine wp_region_held_drew (S := fun w' => Blk w' w.heap.size 53 (rcA b c d p q) ∧ w'.cell? ⟨w.heap.size, 0, none⟩ = some (.int .i32 b) ∧ w'.cell? ⟨w.heap.size, 1, none⟩ = some (.int .i32 c) ∧ w'.cell? ⟨w.heap.size, 2, none⟩ = some (.int .i32 d) ∧ Below w.heap.size w w') (by kernel_rfl) (ZZ.out) (fun hHeld => ?_)
  refine wpAnyH_take (i := 0) (oi := { dst := some 3, op := Op.fieldAddr 53 (Operand.tmp 1) 0, type := 0, pos := "ref.go:35", after := #[], guard := none }) (v := ?_) rfl (by kernel_rfl) (by kernel_rfl) (by kernel_rfl) (fun _ _ _ h => h) (Or.inl ⟨by rfl, ?_⟩) hHeld ?_
  rotate_left
  · intro w hSw
    try dsimp only at hSw
    go_simp
    try with_reducible rfl
  try simp only [Act.put, List.setIfInBounds_toArray, List.set_cons_zero, List.set_cons_succ]
  refine wpAnyH_take (i := 1) (oi := { dst := some 4, op := Op.load 21 (Operand.tmp 3), type := 21, pos := "ref.go:35", after := #[{ on := 0, ground := Ground.data }], guard := none }) (v := ?_) rfl (by kernel_rfl) (by kernel_rfl) (by kernel_rfl) (fun _ _ _ h => h) (Or.inl ⟨by rfl, ?_⟩) hHeld ?_
  rotate_left
  · intro w hSw
    try dsimp only at hSw
    go_simp
    try with_reducible rfl
  try simp only [Act.put, List.setIfInBounds_toArray, List.set_cons_zero, List.set_cons_succ]
  refine wpAnyH_take (i := 2) (oi := { dst := some 5, op := Op.convert 21 88 (Operand.tmp 4), type := 88, pos := "ref.go:35", after := #[{ on := 1, ground := Ground.data }], guard := none }) (v := ?_) rfl (by kernel_rfl) (by kernel_rfl) (by kernel_rfl) (fun _ _ _ h => h) (Or.inl ⟨by rfl, ?_⟩) hHeld ?_
  rotate_left
  · intro w hSw
    try dsimp only at hSw
    go_simp
    try with_reducible rfl
  try simp only [Act.put, List.setIfInBounds_toArray, List.set_cons_zero, List.set_cons_succ]
  refine wpAnyH_take (i := 4) (oi := { dst := some 7, op := Op.fieldAddr 53 (Operand.tmp 1) 1, type := 0, pos := "ref.go:35", after := #[], guard := none }) (v := ?_) rfl (by kernel_rfl) (by kernel_rfl) (by kernel_rfl) (fun _ _ _ h => h) (Or.inl ⟨by rfl, ?_⟩) hHeld ?_
  rotate_left
  · intro w hSw
    try dsimp only at hSw
    go_simp
    try with_reducible rfl
  try simp only [Act.put, List.setIfInBounds_toArray, List.set_cons_zero, List.set_cons_succ]
  refine wpAnyH_take (i := 5) (oi := { dst := some 8, op := Op.load 21 (Operand.tmp 7), type := 21, pos := "ref.go:35", after := #[{ on := 4, ground := Ground.data }], guard := none }) (v := ?_) rfl (by kernel_rfl) (by kernel_rfl) (by kernel_rfl) (fun _ _ _ h => h) (Or.inl ⟨by rfl, ?_⟩) hHeld ?_
  rotate_left
  · intro w hSw
    try dsimp only at hSw
    go_simp
    try with_reducible rfl
  try simp only [Act.put, List.setIfInBounds_toArray, List.set_cons_zero, List.set_cons_succ]
  refine wpAnyH_take (i := 6) (oi := { dst := some 9, op := Op.convert 21 88 (Operand.tmp 8), type := 88, pos := "ref.go:35", after := #[{ on := 5, ground := Ground.data }], guard := none }) (v := ?_) rfl (by kernel_rfl) (by kernel_rfl) (by kernel_rfl) (fun _ _ _ h => h) (Or.inl ⟨by rfl, ?_⟩) hHeld ?_
  rotate_left
  · intro w hSw
    try dsimp only at hSw
    go_simp
    try with_reducible rfl
  try simp only [Act.put, List.setIfInBounds_toArray, List.set_cons_zero, List.set_cons_succ]
  refine wpAnyH_take (i := 9) (oi := { dst := some 12, op := Op.fieldAddr 53 (Operand.tmp 1) 2, type := 0, pos := "ref.go:35", after := #[], guard := none }) (v := ?_) rfl (by kernel_rfl) (by kernel_rfl) (by kernel_rfl) (fun _ _ _ h => h) (Or.inl ⟨by rfl, ?_⟩) hHeld ?_
  rotate_left
  · intro w hSw
    try dsimp only at hSw
    go_simp
    try with_reducible rfl
  try simp only [Act.put, List.setIfInBounds_toArray, List.set_cons_zero, List.set_cons_succ]
  refine wpAnyH_take (i := 10) (oi := { dst := some 13, op := Op.load 21 (Operand.tmp 12), type := 21, pos := "ref.go:35", after := #[{ on := 9, ground := Ground.data }], guard := none }) (v := ?_) rfl (by kernel_rfl) (by kernel_rfl) (by kernel_rfl) (fun _ _ _ h => h) (Or.inl ⟨by rfl, ?_⟩) hHeld ?_
  rotate_left
  · intro w hSw
    try dsimp only at hSw
    go_simp
    try with_reducible rfl
  try simp only [Act.put, List.setIfInBounds_toArray, List.set_cons_zero, List.set_cons_succ]
  refine wpAnyH_take (i := 11) (oi := { dst := some 14, op := Op.convert 21 88 (Operand.tmp 13), type := 88, pos := "ref.go:35", after := #[{ on := 10, ground := Ground.data }], guard := none }) (v := ?_) rfl (by kernel_rfl) (by kernel_rfl) (by kernel_rfl) (fun _ _ _ h => h) (Or.inl ⟨by rfl, ?_⟩) hHeld ?_
  rotate_left
  · intro w hSw
    try dsimp only at hSw
    go_simp
    try with_reducible rfl
  try simp only [Act.put, List.setIfInBounds_toArray, List.set_cons_zero, List.set_cons_succ]
  refine wpAnyH_take (i := 14) (oi := { dst := some 17, op := Op.fieldAddr 53 (Operand.tmp 1) 3, type := 0, pos := "ref.go:35", after := #[], guard := none }) (v := ?_) rfl (by kernel_rfl) (by kernel_rfl) (by kernel_rfl) (fun _ _ _ h => h) (Or.inl ⟨by rfl, ?_⟩) hHeld ?_
  rotate_left
  · intro w hSw
    try dsimp only at hSw
    go_simp
    try with_reducible rfl
  try simp only [Act.put, List.setIfInBounds_toArray, List.set_cons_zero, List.set_cons_succ]
  refine wpAnyH_take (i := 18) (oi := { dst := some 21, op := Op.fieldAddr 53 (Operand.tmp 1) 4, type := 0, pos := "ref.go:35", after := #[], guard := none }) (v := ?_) rfl (by kernel_rfl) (by kernel_rfl) (by kernel_rfl) (fun _ _ _ h => h) (Or.inl ⟨by rfl, ?_⟩) hHeld ?_
  rotate_left
  · intro w hSw
    try dsimp only at hSw
    go_simp
    try with_reducible rfl
  try simp only [Act.put, List.setIfInBounds_toArray, List.set_cons_zero, List.set_cons_succ]
  refine wpAnyH_ready (rs := [3, 15, 19]) (by kernel_rfl) (by simp) ?_
  refine AllReadyH.cons (o := { dst := some 6, op := Op.call { callee := Callee.value (Operand.func 70), args := #[Operand.const (Value.int IntKind.i64 4), Operand.tmp 5], argTypes := #[3, 88] }, type := 9, pos := "ref.go:35", after := #[{ on := 2, ground := Ground.data }], guard := none }) rfl (fun K hK => ?_) (AllReadyH.cons (o := { dst := some 18, op := Op.load 41 (Operand.tmp 17), type := 41, pos := "ref.go:35", after := #[{ on := 14, ground := Ground.data }], guard := none }) rfl (fun K hK => ?_) (AllReadyH.cons (o := { dst := some 22, op := Op.load 41 (Operand.tmp 21), type := 41, pos := "ref.go:35", after := #[{ on := 18, ground := Ground.data }], guard := none }) rfl (fun K hK => ?_) (AllReadyH.nil)))
  · skip
    go_simp
    refine (h1 _).mono ?_; rintro e w_1 ⟨rfl, hb_1⟩
    try go_wp2_with fail
    refine hK.out _ _ (bk_on hHeld hHeld.2.2.2.2.size hb_1) (fun hHeld2 => ?_)
    clear hK K hHeld; have hHeld := hHeld2; clear hHeld2
    try simp only [Act.put, List.setIfInBounds_toArray, List.set_cons_zero, List.set_cons_succ]
    refine wpAnyH_ready (rs := [7, 15, 19]) (by kernel_rfl) (by simp) ?_
    refine AllReadyH.cons (o := { dst := some 10, op := Op.call { callee := Callee.value (Operand.func 70), args := #[Operand.const (Value.int IntKind.i64 4), Operand.tmp 9], argTypes := #[3, 88] }, type := 9, pos := "ref.go:35", after := #[{ on := 6, ground := Ground.data }, { on := 3, ground := Ground.chain }], guard := none }) rfl (fun K hK => ?_) (AllReadyH.cons (o := { dst := some 18, op := Op.load 41 (Operand.tmp 17), type := 41, pos := "ref.go:35", after := #[{ on := 14, ground := Ground.data }], guard := none }) rfl (fun K hK => ?_) (AllReadyH.cons (o := { dst := some 22, op := Op.load 41 (Operand.tmp 21), type := 41, pos := "ref.go:35", after := #[{ on := 18, ground := Ground.data }], guard := none }) rfl (fun K hK => ?_) (AllReadyH.nil)))
    · skip
      go_simp
      refine (h2 _).mono ?_; rintro e w_2 ⟨rfl, hb_2⟩
      try go_wp2_with fail
      refine hK.out _ _ (bk_on hHeld hHeld.2.2.2.2.size hb_2) (fun hHeld2 => ?_)
      clear hK K hHeld; have hHeld := hHeld2; clear hHeld2
      try simp only [Act.put, List.setIfInBounds_toArray, List.set_cons_zero, List.set_cons_succ]
      refine wpAnyH_take (i := 8) (oi := { dst := some 11, op := Op.binOp BinOp.add 9 (Operand.tmp 6) (Operand.tmp 10) 9, type := 9, pos := "ref.go:35", after := #[{ on := 3, ground := Ground.data }, { on := 7, ground := Ground.data }], guard := none }) (v := ?_) rfl (by kernel_rfl) (by kernel_rfl) (by kernel_rfl) (fun _ _ _ h => h) (Or.inl ⟨by rfl, ?_⟩) hHeld ?_
      rotate_left
      · intro w hSw
        try dsimp only at hSw
        go_simp
        try with_reducible rfl
      try simp only [Act.put, List.setIfInBounds_toArray, List.set_cons_zero, List.set_cons_succ]
      refine wpAnyH_ready (rs := [12, 15, 19]) (by kernel_rfl) (by simp) ?_
      refine AllReadyH.cons (o := { dst := some 15, op := Op.call { callee := Callee.value (Operand.func 70), args := #[Operand.const (Value.int IntKind.i64 4), Operand.tmp 14], argTypes := #[3, 88] }, type := 9, pos := "ref.go:35", after := #[{ on := 11, ground := Ground.data }, { on := 7, ground := Ground.chain }], guard := none }) rfl (fun K hK => ?_) (AllReadyH.cons (o := { dst := some 18, op := Op.load 41 (Operand.tmp 17), type := 41, pos := "ref.go:35", after := #[{ on := 14, ground := Ground.data }], guard := none }) rfl (fun K hK => ?_) (AllReadyH.cons (o := { dst := some 22, op := Op.load 41 (Operand.tmp 21), type := 41, pos := "ref.go:35", after := #[{ on := 18, ground := Ground.data }], guard := none }) rfl (fun K hK => ?_) (AllReadyH.nil)))
      · skip
        go_simp
        refine (h3 _).mono ?_; rintro e w_3 ⟨rfl, hb_3⟩
        try go_wp2_with fail
        refine hK.out _ _ (bk_on hHeld hHeld.2.2.2.2.size hb_3) (fun hHeld2 => ?_)
        clear hK K hHeld; have hHeld := hHeld2; clear hHeld2
        try simp only [Act.put, List.setIfInBounds_toArray, List.set_cons_zero, List.set_cons_succ]
        refine wpAnyH_take (i := 13) (oi := { dst := some 16, op := Op.binOp BinOp.add 9 (Operand.tmp 11) (Operand.tmp 15) 9, type := 9, pos := "ref.go:35", after := #[{ on := 8, ground := Ground.data }, { on := 12, ground := Ground.data }], guard := none }) (v := ?_) rfl (by kernel_rfl) (by kernel_rfl) (by kernel_rfl) (fun _ _ _ h => h) (Or.inl ⟨by rfl, ?_⟩) hHeld ?_
        rotate_left
        · intro w hSw
          try dsimp only at hSw
          go_simp
          try with_reducible rfl
        try simp only [Act.put, List.setIfInBounds_toArray, List.set_cons_zero, List.set_cons_succ]
        refine wpAnyH_ready (rs := [15, 19]) (by kernel_rfl) (by simp) ?_
        refine AllReadyH.cons (o := { dst := some 18, op := Op.load 41 (Operand.tmp 17), type := 41, pos := "ref.go:35", after := #[{ on := 14, ground := Ground.data }], guard := none }) rfl (fun K hK => ?_) (AllReadyH.cons (o := { dst := some 22, op := Op.load 41 (Operand.tmp 21), type := 41, pos := "ref.go:35", after := #[{ on := 18, ground := Ground.data }], guard := none }) rfl (fun K hK => ?_) (AllReadyH.nil))
        · skip
          refine wp_ld 41 (.tmp 17) rfl _ (sA p) rfl (ld_seg (k := 3) hHeld.1 Tryd.underlying41 rfl (by kernel_rfl) (by kernel_rfl)) ?_
          refine hK.out _ _ (hHeld) (fun hHeld2 => ?_)
          clear hK K hHeld; have hHeld := hHeld2; clear hHeld2
          try simp only [Act.put, List.setIfInBounds_toArray, List.set_cons_zero, List.set_cons_succ]
          refine wpAnyH_ready (rs := [16, 19]) (by kernel_rfl) (by simp) ?_
          refine AllReadyH.cons (o := { dst := some 19, op := Op.call { callee := Callee.value (Operand.func 71), args := #[Operand.tmp 18], argTypes := #[41] }, type := 9, pos := "ref.go:35", after := #[{ on := 15, ground := Ground.data }, { on := 12, ground := Ground.chain }], guard := none }) rfl (fun K hK => ?_) (AllReadyH.cons (o := { dst := some 22, op := Op.load 41 (Operand.tmp 21), type := 41, pos := "ref.go:35", after := #[{ on := 18, ground := Ground.data }], guard := none }) rfl (fun K hK => ?_) (AllReadyH.nil))
          · skip
            go_simp
            refine (h4 _).mono ?_; rintro e w_5 ⟨rfl, hb_5⟩
            try go_wp2_with fail
            refine hK.out _ _ (bk_on hHeld hHeld.2.2.2.2.size hb_5) (fun hHeld2 => ?_)
            clear hK K hHeld; have hHeld := hHeld2; clear hHeld2
            try simp only [Act.put, List.setIfInBounds_toArray, List.set_cons_zero, List.set_cons_succ]
            refine wpAnyH_take (i := 17) (oi := { dst := some 20, op := Op.binOp BinOp.add 9 (Operand.tmp 16) (Operand.tmp 19) 9, type := 9, pos := "ref.go:35", after := #[{ on := 13, ground := Ground.data }, { on := 16, ground := Ground.data }], guard := none }) (v := ?_) rfl (by kernel_rfl) (by kernel_rfl) (by kernel_rfl) (fun _ _ _ h => h) (Or.inl ⟨by rfl, ?_⟩) hHeld ?_
            rotate_left
            · intro w hSw
              try dsimp only at hSw
              go_simp
              try with_reducible rfl
            try simp only [Act.put, List.setIfInBounds_toArray, List.set_cons_zero, List.set_cons_succ]
            refine wpAnyH_ready (rs := [19]) (by kernel_rfl) (by simp) ?_
            refine AllReadyH.cons (o := { dst := some 22, op := Op.load 41 (Operand.tmp 21), type := 41, pos := "ref.go:35", after := #[{ on := 18, ground := Ground.data }], guard := none }) rfl (fun K hK => ?_) (AllReadyH.nil)
            refine wp_ld 41 (.tmp 21) rfl _ (sA q) rfl (ld_seg (k := 11) hHeld.1 Tryd.underlying41 rfl (by kernel_rfl) (by kernel_rfl)) ?_
            refine hK.out _ _ (hHeld) (fun hHeld2 => ?_)
            clear hK K hHeld; have hHeld := hHeld2; clear hHeld2
            try simp only [Act.put, List.setIfInBounds_toArray, List.set_cons_zero, List.set_cons_succ]
            refine wpAnyH_ready (rs := [20]) (by kernel_rfl) (by simp) ?_
            refine AllReadyH.cons (o := { dst := some 23, op := Op.call { callee := Callee.value (Operand.func 71), args := #[Operand.tmp 22], argTypes := #[41] }, type := 9, pos := "ref.go:35", after := #[{ on := 19, ground := Ground.data }, { on := 16, ground := Ground.chain }], guard := none }) rfl (fun K hK => ?_) (AllReadyH.nil)
            go_simp
            refine (h5 _).mono ?_; rintro e w_7 ⟨rfl, hb_7⟩
            try go_wp2_with fail
            refine hK.out _ _ (bk_on hHeld hHeld.2.2.2.2.size hb_7) (fun hHeld2 => ?_)
            clear hK K hHeld; have hHeld := hHeld2; clear hHeld2
            try simp only [Act.put, List.setIfInBounds_toArray, List.set_cons_zero, List.set_cons_succ]
            refine wpAnyH_take (i := 21) (oi := { dst := some 24, op := Op.binOp BinOp.add 9 (Operand.tmp 20) (Operand.tmp 23) 9, type := 9, pos := "ref.go:35", after := #[{ on := 17, ground := Ground.data }, { on := 20, ground := Ground.data }], guard := none }) (v := ?_) rfl (by kernel_rfl) (by kernel_rfl) (by kernel_rfl) (fun _ _ _ h => h) (Or.inl ⟨by rfl, ?_⟩) hHeld ?_
            rotate_left
            · intro w hSw
              try dsimp only at hSw
              go_simp
              try with_reducible rfl
            try simp only [Act.put, List.setIfInBounds_toArray, List.set_cons_zero, List.set_cons_succ]
            refine wpAnyH_take (i := 22) (oi := { dst := some 2, op := Op.assign (Operand.tmp 24), type := 9, pos := "ref.go:35", after := #[{ on := 21, ground := Ground.data }, { on := 20, ground := Ground.chain }, { on := 0, ground := Ground.phase }, { on := 1, ground := Ground.phase }, { on := 2, ground := Ground.phase }, { on := 3, ground := Ground.phase }, { on := 4, ground := Ground.phase }, { on := 5, ground := Ground.phase }, { on := 6, ground := Ground.phase }, { on := 7, ground := Ground.phase }, { on := 8, ground := Ground.phase }, { on := 9, ground := Ground.phase }, { on := 10, ground := Ground.phase }, { on := 11, ground := Ground.phase }, { on := 12, ground := Ground.phase }, { on := 13, ground := Ground.phase }, { on := 14, ground := Ground.phase }, { on := 15, ground := Ground.phase }, { on := 16, ground := Ground.phase }, { on := 17, ground := Ground.phase }, { on := 18, ground := Ground.phase }, { on := 19, ground := Ground.phase }, { on := 20, ground := Ground.phase }, { on := 21, ground := Ground.phase }], guard := none }) (v := ?_) rfl (by kernel_rfl) (by kernel_rfl) (by kernel_rfl) (fun _ _ _ h => h) (Or.inl ⟨by rfl, ?_⟩) hHeld ?_
            rotate_left
            · intro w hSw
              try dsimp only at hSw
              go_simp
              try with_reducible rfl
            try simp only [Act.put, List.setIfInBounds_toArray, List.set_cons_zero, List.set_cons_succ]
            refine wpAnyH_done (by kernel_rfl) ?_ _
            obtain ⟨-, -, -, -, hfin⟩ := hHeld
            go_wp2_with fail
            go_ret
            exact ⟨by rw [hres.out]; rfl, hfin⟩
          · skip
            refine wp_ld 41 (.tmp 21) rfl _ (sA q) rfl (ld_seg (k := 11) hHeld.1 Tryd.underlying41 rfl (by kernel_rfl) (by kernel_rfl)) ?_
            refine hK.out _ _ (hHeld) (fun hHeld2 => ?_)
            clear hK K hHeld; have hHeld := hHeld2; clear hHeld2
            try simp only [Act.put, List.setIfInBounds_toArray, List.set_cons_zero, List.set_cons_succ]
            refine wpAnyH_ready (rs := [16]) (by kernel_rfl) (by simp) ?_
            refine AllReadyH.cons (o := { dst := some 19, op := Op.call { callee := Callee.value (Operand.func 71), args := #[Operand.tmp 18], argTypes := #[41] }, type := 9, pos := "ref.go:35", after := #[{ on := 15, ground := Ground.data }, { on := 12, ground := Ground.chain }], guard := none }) rfl (fun K hK => ?_) (AllReadyH.nil)
            go_simp
            refine (h4 _).mono ?_; rintro e w_9 ⟨rfl, hb_9⟩
            try go_wp2_with fail
            refine hK.out _ _ (bk_on hHeld hHeld.2.2.2.2.size hb_9) (fun hHeld2 => ?_)
            clear hK K hHeld; have hHeld := hHeld2; clear hHeld2
            try simp only [Act.put, List.setIfInBounds_toArray, List.set_cons_zero, List.set_cons_succ]
            refine wpAnyH_take (i := 17) (oi := { dst := some 20, op := Op.binOp BinOp.add 9 (Operand.tmp 16) (Operand.tmp 19) 9, type := 9, pos := "ref.go:35", after := #[{ on := 13, ground := Ground.data }, { on := 16, ground := Ground.data }], guard := none }) (v := ?_) rfl (by kernel_rfl) (by kernel_rfl) (by kernel_rfl) (fun _ _ _ h => h) (Or.inl ⟨by rfl, ?_⟩) hHeld ?_
            rotate_left
            · intro w hSw
              try dsimp only at hSw
              go_simp
              try with_reducible rfl
            try simp only [Act.put, List.setIfInBounds_toArray, List.set_cons_zero, List.set_cons_succ]
            refine wpAnyH_ready (rs := [20]) (by kernel_rfl) (by simp) ?_
            refine AllReadyH.cons (o := { dst := some 23, op := Op.call { callee := Callee.value (Operand.func 71), args := #[Operand.tmp 22], argTypes := #[41] }, type := 9, pos := "ref.go:35", after := #[{ on := 19, ground := Ground.data }, { on := 16, ground := Ground.chain }], guard := none }) rfl (fun K hK => ?_) (AllReadyH.nil)
            go_simp
            refine (h5 _).mono ?_; rintro e w_10 ⟨rfl, hb_10⟩
            try go_wp2_with fail
            refine hK.out _ _ (bk_on hHeld hHeld.2.2.2.2.size hb_10) (fun hHeld2 => ?_)
            clear hK K hHeld; have hHeld := hHeld2; clear hHeld2
            try simp only [Act.put, List.setIfInBounds_toArray, List.set_cons_zero, List.set_cons_succ]
            refine wpAnyH_take (i := 21) (oi := { dst := some 24, op := Op.binOp BinOp.add 9 (Operand.tmp 20) (Operand.tmp 23) 9, type := 9, pos := "ref.go:35", after := #[{ on := 17, ground := Ground.data }, { on := 20, ground := Ground.data }], guard := none }) (v := ?_) rfl (by kernel_rfl) (by kernel_rfl) (by kernel_rfl) (fun _ _ _ h => h) (Or.inl ⟨by rfl, ?_⟩) hHeld ?_
            rotate_left
            · intro w hSw
              try dsimp only at hSw
              go_simp
              try with_reducible rfl
            try simp only [Act.put, List.setIfInBounds_toArray, List.set_cons_zero, List.set_cons_succ]
            refine wpAnyH_take (i := 22) (oi := { dst := some 2, op := Op.assign (Operand.tmp 24), type := 9, pos := "ref.go:35", after := #[{ on := 21, ground := Ground.data }, { on := 20, ground := Ground.chain }, { on := 0, ground := Ground.phase }, { on := 1, ground := Ground.phase }, { on := 2, ground := Ground.phase }, { on := 3, ground := Ground.phase }, { on := 4, ground := Ground.phase }, { on := 5, ground := Ground.phase }, { on := 6, ground := Ground.phase }, { on := 7, ground := Ground.phase }, { on := 8, ground := Ground.phase }, { on := 9, ground := Ground.phase }, { on := 10, ground := Ground.phase }, { on := 11, ground := Ground.phase }, { on := 12, ground := Ground.phase }, { on := 13, ground := Ground.phase }, { on := 14, ground := Ground.phase }, { on := 15, ground := Ground.phase }, { on := 16, ground := Ground.phase }, { on := 17, ground := Ground.phase }, { on := 18, ground := Ground.phase }, { on := 19, ground := Ground.phase }, { on := 20, ground := Ground.phase }, { on := 21, ground := Ground.phase }], guard := none }) (v := ?_) rfl (by kernel_rfl) (by kernel_rfl) (by kernel_rfl) (fun _ _ _ h => h) (Or.inl ⟨by rfl, ?_⟩) hHeld ?_
            rotate_left
            · intro w hSw
              try dsimp only at hSw
              go_simp
              try with_reducible rfl
            try simp only [Act.put, List.setIfInBounds_toArray, List.set_cons_zero, List.set_cons_succ]
            refine wpAnyH_done (by kernel_rfl) ?_ _
            obtain ⟨-, -, -, -, hfin⟩ := hHeld
            go_wp2_with fail
            go_ret
            exact ⟨by rw [hres.out]; rfl, hfin⟩
        · skip
          refine wp_ld 41 (.tmp 21) rfl _ (sA q) rfl (ld_seg (k := 11) hHeld.1 Tryd.underlying41 rfl (by kernel_rfl) (by kernel_rfl)) ?_
          refine hK.out _ _ (hHeld) (fun hHeld2 => ?_)
          clear hK K hHeld; have hHeld := hHeld2; clear hHeld2
          try simp only [Act.put, List.setIfInBounds_toArray, List.set_cons_zero, List.set_cons_succ]
          refine wpAnyH_ready (rs := [15]) (by kernel_rfl) (by simp) ?_
          refine AllReadyH.cons (o := { dst := some 18, op := Op.load 41 (Operand.tmp 17), type := 41, pos := "ref.go:35", after := #[{ on := 14, ground := Ground.data }], guard := none }) rfl (fun K hK => ?_) (AllReadyH.nil)
          refine wp_ld 41 (.tmp 17) rfl _ (sA p) rfl (ld_seg (k := 3) hHeld.1 Tryd.underlying41 rfl (by kernel_rfl) (by kernel_rfl)) ?_
          refine hK.out _ _ (hHeld) (fun hHeld2 => ?_)
          clear hK K hHeld; have hHeld := hHeld2; clear hHeld2
          try simp only [Act.put, List.setIfInBounds_toArray, List.set_cons_zero, List.set_cons_succ]
          refine wpAnyH_ready (rs := [16]) (by kernel_rfl) (by simp) ?_
          refine AllReadyH.cons (o := { dst := some 19, op := Op.call { callee := Callee.value (Operand.func 71), args := #[Operand.tmp 18], argTypes := #[41] }, type := 9, pos := "ref.go:35", after := #[{ on := 15, ground := Ground.data }, { on := 12, ground := Ground.chain }], guard := none }) rfl (fun K hK => ?_) (AllReadyH.nil)
          go_simp
          refine (h4 _).mono ?_; rintro e w_13 ⟨rfl, hb_13⟩
          try go_wp2_with fail
          refine hK.out _ _ (bk_on hHeld hHeld.2.2.2.2.size hb_13) (fun hHeld2 => ?_)
          clear hK K hHeld; have hHeld := hHeld2; clear hHeld2
          try simp only [Act.put, List.setIfInBounds_toArray, List.set_cons_zero, List.set_cons_succ]
          refine wpAnyH_take (i := 17) (oi := { dst := some 20, op := Op.binOp BinOp.add 9 (Operand.tmp 16) (Operand.tmp 19) 9, type := 9, pos := "ref.go:35", after := #[{ on := 13, ground := Ground.data }, { on := 16, ground := Ground.data }], guard := none }) (v := ?_) rfl (by kernel_rfl) (by kernel_rfl) (by kernel_rfl) (fun _ _ _ h => h) (Or.inl ⟨by rfl, ?_⟩) hHeld ?_
          rotate_left
          · intro w hSw
            try dsimp only at hSw
            go_simp
            try with_reducible rfl
          try simp only [Act.put, List.setIfInBounds_toArray, List.set_cons_zero, List.set_cons_succ]
          refine wpAnyH_ready (rs := [20]) (by kernel_rfl) (by simp) ?_
          refine AllReadyH.cons (o := { dst := some 23, op := Op.call { callee := Callee.value (Operand.func 71), args := #[Operand.tmp 22], argTypes := #[41] }, type := 9, pos := "ref.go:35", after := #[{ on := 19, ground := Ground.data }, { on := 16, ground := Ground.chain }], guard := none }) rfl (fun K hK => ?_) (AllReadyH.nil)
          go_simp
          refine (h5 _).mono ?_; rintro e w_14 ⟨rfl, hb_14⟩
          try go_wp2_with fail
          refine hK.out _ _ (bk_on hHeld hHeld.2.2.2.2.size hb_14) (fun hHeld2 => ?_)
          clear hK K hHeld; have hHeld := hHeld2; clear hHeld2
          try simp only [Act.put, List.setIfInBounds_toArray, List.set_cons_zero, List.set_cons_succ]
          refine wpAnyH_take (i := 21) (oi := { dst := some 24, op := Op.binOp BinOp.add 9 (Operand.tmp 20) (Operand.tmp 23) 9, type := 9, pos := "ref.go:35", after := #[{ on := 17, ground := Ground.data }, { on := 20, ground := Ground.data }], guard := none }) (v := ?_) rfl (by kernel_rfl) (by kernel_rfl) (by kernel_rfl) (fun _ _ _ h => h) (Or.inl ⟨by rfl, ?_⟩) hHeld ?_
          rotate_left
          · intro w hSw
            try dsimp only at hSw
            go_simp
            try with_reducible rfl
          try simp only [Act.put, List.setIfInBounds_toArray, List.set_cons_zero, List.set_cons_succ]
          refine wpAnyH_take (i := 22) (oi := { dst := some 2, op := Op.assign (Operand.tmp 24), type := 9, pos := "ref.go:35", after := #[{ on := 21, ground := Ground.data }, { on := 20, ground := Ground.chain }, { on := 0, ground := Ground.phase }, { on := 1, ground := Ground.phase }, { on := 2, ground := Ground.phase }, { on := 3, ground := Ground.phase }, { on := 4, ground := Ground.phase }, { on := 5, ground := Ground.phase }, { on := 6, ground := Ground.phase }, { on := 7, ground := Ground.phase }, { on := 8, ground := Ground.phase }, { on := 9, ground := Ground.phase }, { on := 10, ground := Ground.phase }, { on := 11, ground := Ground.phase }, { on := 12, ground := Ground.phase }, { on := 13, ground := Ground.phase }, { on := 14, ground := Ground.phase }, { on := 15, ground := Ground.phase }, { on := 16, ground := Ground.phase }, { on := 17, ground := Ground.phase }, { on := 18, ground := Ground.phase }, { on := 19, ground := Ground.phase }, { on := 20, ground := Ground.phase }, { on := 21, ground := Ground.phase }], guard := none }) (v := ?_) rfl (by kernel_rfl) (by kernel_rfl) (by kernel_rfl) (fun _ _ _ h => h) (Or.inl ⟨by rfl, ?_⟩) hHeld ?_
          rotate_left
          · intro w hSw
            try dsimp only at hSw
            go_simp
            try with_reducible rfl
          try simp only [Act.put, List.setIfInBounds_toArray, List.set_cons_zero, List.set_cons_succ]
          refine wpAnyH_done (by kernel_rfl) ?_ _
          obtain ⟨-, -, -, -, hfin⟩ := hHeld
          go_wp2_with fail
          go_ret
          exact ⟨by rw [hres.out]; rfl, hfin⟩
      · skip
        refine wp_ld 41 (.tmp 17) rfl _ (sA p) rfl (ld_seg (k := 3) hHeld.1 Tryd.underlying41 rfl (by kernel_rfl) (by kernel_rfl)) ?_
        refine hK.out _ _ (hHeld) (fun hHeld2 => ?_)
        clear hK K hHeld; have hHeld := hHeld2; clear hHeld2
        try simp only [Act.put, List.setIfInBounds_toArray, List.set_cons_zero, List.set_cons_succ]
        refine wpAnyH_ready (rs := [12, 19]) (by kernel_rfl) (by simp) ?_
        refine AllReadyH.cons (o := { dst := some 15, op := Op.call { callee := Callee.value (Operand.func 70), args := #[Operand.const (Value.int IntKind.i64 4), Operand.tmp 14], argTypes := #[3, 88] }, type := 9, pos := "ref.go:35", after := #[{ on := 11, ground := Ground.data }, { on := 7, ground := Ground.chain }], guard := none }) rfl (fun K hK => ?_) (AllReadyH.cons (o := { dst := some 22, op := Op.load 41 (Operand.tmp 21), type := 41, pos := "ref.go:35", after := #[{ on := 18, ground := Ground.data }], guard := none }) rfl (fun K hK => ?_) (AllReadyH.nil))
        · skip
          go_simp
          refine (h3 _).mono ?_; rintro e w_16 ⟨rfl, hb_16⟩
          try go_wp2_with fail
          refine hK.out _ _ (bk_on hHeld hHeld.2.2.2.2.size hb_16) (fun hHeld2 => ?_)
          clear hK K hHeld; have hHeld := hHeld2; clear hHeld2
          try simp only [Act.put, List.setIfInBounds_toArray, List.set_cons_zero, List.set_cons_succ]
          refine wpAnyH_take (i := 13) (oi := { dst := some 16, op := Op.binOp BinOp.add 9 (Operand.tmp 11) (Operand.tmp 15) 9, type := 9, pos := "ref.go:35", after := #[{ on := 8, ground := Ground.data }, { on := 12, ground := Ground.data }], guard := none }) (v := ?_) rfl (by kernel_rfl) (by kernel_rfl) (by kernel_rfl) (fun _ _ _ h => h) (Or.inl ⟨by rfl, ?_⟩) hHeld ?_
          rotate_left
          · intro w hSw
            try dsimp only at hSw
            go_simp
            try with_reducible rfl
          try simp only [Act.put, List.setIfInBounds_toArray, List.set_cons_zero, List.set_cons_succ]
          refine wpAnyH_ready (rs := [16, 19]) (by kernel_rfl) (by simp) ?_
          refine AllReadyH.cons (o := { dst := some 19, op := Op.call { callee := Callee.value (Operand.func 71), args := #[Operand.tmp 18], argTypes := #[41] }, type := 9, pos := "ref.go:35", after := #[{ on := 15, ground := Ground.data }, { on := 12, ground := Ground.chain }], guard := none }) rfl (fun K hK => ?_) (AllReadyH.cons (o := { dst := some 22, op := Op.load 41 (Operand.tmp 21), type := 41, pos := "ref.go:35", after := #[{ on := 18, ground := Ground.data }], guard := none }) rfl (fun K hK => ?_) (AllReadyH.nil))
          · skip
            go_simp
            refine (h4 _).mono ?_; rintro e w_17 ⟨rfl, hb_17⟩
            try go_wp2_with fail
            refine hK.out _ _ (bk_on hHeld hHeld.2.2.2.2.size hb_17) (fun hHeld2 => ?_)
            clear hK K hHeld; have hHeld := hHeld2; clear hHeld2
            try simp only [Act.put, List.setIfInBounds_toArray, List.set_cons_zero, List.set_cons_succ]
            refine wpAnyH_take (i := 17) (oi := { dst := some 20, op := Op.binOp BinOp.add 9 (Operand.tmp 16) (Operand.tmp 19) 9, type := 9, pos := "ref.go:35", after := #[{ on := 13, ground := Ground.data }, { on := 16, ground := Ground.data }], guard := none }) (v := ?_) rfl (by kernel_rfl) (by kernel_rfl) (by kernel_rfl) (fun _ _ _ h => h) (Or.inl ⟨by rfl, ?_⟩) hHeld ?_
            rotate_left
            · intro w hSw
              try dsimp only at hSw
              go_simp
              try with_reducible rfl
            try simp only [Act.put, List.setIfInBounds_toArray, List.set_cons_zero, List.set_cons_succ]
            refine wpAnyH_ready (rs := [19]) (by kernel_rfl) (by simp) ?_
            refine AllReadyH.cons (o := { dst := some 22, op := Op.load 41 (Operand.tmp 21), type := 41, pos := "ref.go:35", after := #[{ on := 18, ground := Ground.data }], guard := none }) rfl (fun K hK => ?_) (AllReadyH.nil)
            refine wp_ld 41 (.tmp 21) rfl _ (sA q) rfl (ld_seg (k := 11) hHeld.1 Tryd.underlying41 rfl (by kernel_rfl) (by kernel_rfl)) ?_
            refine hK.out _ _ (hHeld) (fun hHeld2 => ?_)
            clear hK K hHeld; have hHeld := hHeld2; clear hHeld2
            try simp only [Act.put, List.setIfInBounds_toArray, List.set_cons_zero, List.set_cons_succ]
            refine wpAnyH_ready (rs := [20]) (by kernel_rfl) (by simp) ?_
            refine AllReadyH.cons (o := { dst := some 23, op := Op.call { callee := Callee.value (Operand.func 71), args := #[Operand.tmp 22], argTypes := #[41] }, type := 9, pos := "ref.go:35", after := #[{ on := 19, ground := Ground.data }, { on := 16, ground := Ground.chain }], guard := none }) rfl (fun K hK => ?_) (AllReadyH.nil)
            go_simp
            refine (h5 _).mono ?_; rintro e w_19 ⟨rfl, hb_19⟩
            try go_wp2_with fail
            refine hK.out _ _ (bk_on hHeld hHeld.2.2.2.2.size hb_19) (fun hHeld2 => ?_)
            clear hK K hHeld; have hHeld := hHeld2; clear hHeld2
            try simp only [Act.put, List.setIfInBounds_toArray, List.set_cons_zero, List.set_cons_succ]
            refine wpAnyH_take (i := 21) (oi := { dst := some 24, op := Op.binOp BinOp.add 9 (Operand.tmp 20) (Operand.tmp 23) 9, type := 9, pos := "ref.go:35", after := #[{ on := 17, ground := Ground.data }, { on := 20, ground := Ground.data }], guard := none }) (v := ?_) rfl (by kernel_rfl) (by kernel_rfl) (by kernel_rfl) (fun _ _ _ h => h) (Or.inl ⟨by rfl, ?_⟩) hHeld ?_
            rotate_left
            · intro w hSw
              try dsimp only at hSw
              go_simp
              try with_reducible rfl
            try simp only [Act.put, List.setIfInBounds_toArray, List.set_cons_zero, List.set_cons_succ]
            refine wpAnyH_take (i := 22) (oi := { dst := some 2, op := Op.assign (Operand.tmp 24), type := 9, pos := "ref.go:35", after := #[{ on := 21, ground := Ground.data }, { on := 20, ground := Ground.chain }, { on := 0, ground := Ground.phase }, { on := 1, ground := Ground.phase }, { on := 2, ground := Ground.phase }, { on := 3, ground := Ground.phase }, { on := 4, ground := Ground.phase }, { on := 5, ground := Ground.phase }, { on := 6, ground := Ground.phase }, { on := 7, ground := Ground.phase }, { on := 8, ground := Ground.phase }, { on := 9, ground := Ground.phase }, { on := 10, ground := Ground.phase }, { on := 11, ground := Ground.phase }, { on := 12, ground := Ground.phase }, { on := 13, ground := Ground.phase }, { on := 14, ground := Ground.phase }, { on := 15, ground := Ground.phase }, { on := 16, ground := Ground.phase }, { on := 17, ground := Ground.phase }, { on := 18, ground := Ground.phase }, { on := 19, ground := Ground.phase }, { on := 20, ground := Ground.phase }, { on := 21, ground := Ground.phase }], guard := none }) (v := ?_) rfl (by kernel_rfl) (by kernel_rfl) (by kernel_rfl) (fun _ _ _ h => h) (Or.inl ⟨by rfl, ?_⟩) hHeld ?_
            rotate_left
            · intro w hSw
              try dsimp only at hSw
              go_simp
              try with_reducible rfl
            try simp only [Act.put, List.setIfInBounds_toArray, List.set_cons_zero, List.set_cons_succ]
            refine wpAnyH_done (by kernel_rfl) ?_ _
            obtain ⟨-, -, -, -, hfin⟩ := hHeld
            go_wp2_with fail
            go_ret
            exact ⟨by rw [hres.out]; rfl, hfin⟩
          · skip
            refine wp_ld 41 (.tmp 21) rfl _ (sA q) rfl (ld_seg (k := 11) hHeld.1 Tryd.underlying41 rfl (by kernel_rfl) (by kernel_rfl)) ?_
            refine hK.out _ _ (hHeld) (fun hHeld2 => ?_)
            clear hK K hHeld; have hHeld := hHeld2; clear hHeld2
            try simp only [Act.put, List.setIfInBounds_toArray, List.set_cons_zero, List.set_cons_succ]
            refine wpAnyH_ready (rs := [16]) (by kernel_rfl) (by simp) ?_
            refine AllReadyH.cons (o := { dst := some 19, op := Op.call { callee := Callee.value (Operand.func 71), args := #[Operand.tmp 18], argTypes := #[41] }, type := 9, pos := "ref.go:35", after := #[{ on := 15, ground := Ground.data }, { on := 12, ground := Ground.chain }], guard := none }) rfl (fun K hK => ?_) (AllReadyH.nil)
            go_simp
            refine (h4 _).mono ?_; rintro e w_21 ⟨rfl, hb_21⟩
            try go_wp2_with fail
            refine hK.out _ _ (bk_on hHeld hHeld.2.2.2.2.size hb_21) (fun hHeld2 => ?_)
            clear hK K hHeld; have hHeld := hHeld2; clear hHeld2
            try simp only [Act.put, List.setIfInBounds_toArray, List.set_cons_zero, List.set_cons_succ]
            refine wpAnyH_take (i := 17) (oi := { dst := some 20, op := Op.binOp BinOp.add 9 (Operand.tmp 16) (Operand.tmp 19) 9, type := 9, pos := "ref.go:35", after := #[{ on := 13, ground := Ground.data }, { on := 16, ground := Ground.data }], guard := none }) (v := ?_) rfl (by kernel_rfl) (by kernel_rfl) (by kernel_rfl) (fun _ _ _ h => h) (Or.inl ⟨by rfl, ?_⟩) hHeld ?_
            rotate_left
            · intro w hSw
              try dsimp only at hSw
              go_simp
              try with_reducible rfl
            try simp only [Act.put, List.setIfInBounds_toArray, List.set_cons_zero, List.set_cons_succ]
            refine wpAnyH_ready (rs := [20]) (by kernel_rfl) (by simp) ?_
            refine AllReadyH.cons (o := { dst := some 23, op := Op.call { callee := Callee.value (Operand.func 71), args := #[Operand.tmp 22], argTypes := #[41] }, type := 9, pos := "ref.go:35", after := #[{ on := 19, ground := Ground.data }, { on := 16, ground := Ground.chain }], guard := none }) rfl (fun K hK => ?_) (AllReadyH.nil)
            go_simp
            refine (h5 _).mono ?_; rintro e w_22 ⟨rfl, hb_22⟩
            try go_wp2_with fail
            refine hK.out _ _ (bk_on hHeld hHeld.2.2.2.2.size hb_22) (fun hHeld2 => ?_)
            clear hK K hHeld; have hHeld := hHeld2; clear hHeld2
            try simp only [Act.put, List.setIfInBounds_toArray, List.set_cons_zero, List.set_cons_succ]
            refine wpAnyH_take (i := 21) (oi := { dst := some 24, op := Op.binOp BinOp.add 9 (Operand.tmp 20) (Operand.tmp 23) 9, type := 9, pos := "ref.go:35", after := #[{ on := 17, ground := Ground.data }, { on := 20, ground := Ground.data }], guard := none }) (v := ?_) rfl (by kernel_rfl) (by kernel_rfl) (by kernel_rfl) (fun _ _ _ h => h) (Or.inl ⟨by rfl, ?_⟩) hHeld ?_
            rotate_left
            · intro w hSw
              try dsimp only at hSw
              go_simp
              try with_reducible rfl
            try simp only [Act.put, List.setIfInBounds_toArray, List.set_cons_zero, List.set_cons_succ]
            refine wpAnyH_take (i := 22) (oi := { dst := some 2, op := Op.assign (Operand.tmp 24), type := 9, pos := "ref.go:35", after := #[{ on := 21, ground := Ground.data }, { on := 20, ground := Ground.chain }, { on := 0, ground := Ground.phase }, { on := 1, ground := Ground.phase }, { on := 2, ground := Ground.phase }, { on := 3, ground := Ground.phase }, { on := 4, ground := Ground.phase }, { on := 5, ground := Ground.phase }, { on := 6, ground := Ground.phase }, { on := 7, ground := Ground.phase }, { on := 8, ground := Ground.phase }, { on := 9, ground := Ground.phase }, { on := 10, ground := Ground.phase }, { on := 11, ground := Ground.phase }, { on := 12, ground := Ground.phase }, { on := 13, ground := Ground.phase }, { on := 14, ground := Ground.phase }, { on := 15, ground := Ground.phase }, { on := 16, ground := Ground.phase }, { on := 17, ground := Ground.phase }, { on := 18, ground := Ground.phase }, { on := 19, ground := Ground.phase }, { on := 20, ground := Ground.phase }, { on := 21, ground := Ground.phase }], guard := none }) (v := ?_) rfl (by kernel_rfl) (by kernel_rfl) (by kernel_rfl) (fun _ _ _ h => h) (Or.inl ⟨by rfl, ?_⟩) hHeld ?_
            rotate_left
            · intro w hSw
              try dsimp only at hSw
              go_simp
              try with_reducible rfl
            try simp only [Act.put, List.setIfInBounds_toArray, List.set_cons_zero, List.set_cons_succ]
            refine wpAnyH_done (by kernel_rfl) ?_ _
            obtain ⟨-, -, -, -, hfin⟩ := hHeld
            go_wp2_with fail
            go_ret
            exact ⟨by rw [hres.out]; rfl, hfin⟩
        · skip
          refine wp_ld 41 (.tmp 21) rfl _ (sA q) rfl (ld_seg (k := 11) hHeld.1 Tryd.underlying41 rfl (by kernel_rfl) (by kernel_rfl)) ?_
          refine hK.out _ _ (hHeld) (fun hHeld2 => ?_)
          clear hK K hHeld; have hHeld := hHeld2; clear hHeld2
          try simp only [Act.put, List.setIfInBounds_toArray, List.set_cons_zero, List.set_cons_succ]
          refine wpAnyH_ready (rs := [12]) (by kernel_rfl) (by simp) ?_
          refine AllReadyH.cons (o := { dst := some 15, op := Op.call { callee := Callee.value (Operand.func 70), args := #[Operand.const (Value.int IntKind.i64 4), Operand.tmp 14], argTypes := #[3, 88] }, type := 9, pos := "ref.go:35", after := #[{ on := 11, ground := Ground.data }, { on := 7, ground := Ground.chain }], guard := none }) rfl (fun K hK => ?_) (AllReadyH.nil)
          go_simp
          refine (h3 _).mono ?_; rintro e w_24 ⟨rfl, hb_24⟩
          try go_wp2_with fail
          refine hK.out _ _ (bk_on hHeld hHeld.2.2.2.2.size hb_24) (fun hHeld2 => ?_)
          clear hK K hHeld; have hHeld := hHeld2; clear hHeld2
          try simp only [Act.put, List.setIfInBounds_toArray, List.set_cons_zero, List.set_cons_succ]
          refine wpAnyH_take (i := 13) (oi := { dst := some 16, op := Op.binOp BinOp.add 9 (Operand.tmp 11) (Operand.tmp 15) 9, type := 9, pos := "ref.go:35", after := #[{ on := 8, ground := Ground.data }, { on := 12, ground := Ground.data }], guard := none }) (v := ?_) rfl (by kernel_rfl) (by kernel_rfl) (by kernel_rfl) (fun _ _ _ h => h) (Or.inl ⟨by rfl, ?_⟩) hHeld ?_
          rotate_left
          · intro w hSw
            try dsimp only at hSw
            go_simp
            try with_reducible rfl
          try simp only [Act.put, List.setIfInBounds_toArray, List.set_cons_zero, List.set_cons_succ]
          refine wpAnyH_ready (rs := [16]) (by kernel_rfl) (by simp) ?_
          refine AllReadyH.cons (o := { dst := some 19, op := Op.call { callee := Callee.value (Operand.func 71), args := #[Operand.tmp 18], argTypes := #[41] }, type := 9, pos := "ref.go:35", after := #[{ on := 15, ground := Ground.data }, { on := 12, ground := Ground.chain }], guard := none }) rfl (fun K hK => ?_) (AllReadyH.nil)
          go_simp
          refine (h4 _).mono ?_; rintro e w_25 ⟨rfl, hb_25⟩
          try go_wp2_with fail
          refine hK.out _ _ (bk_on hHeld hHeld.2.2.2.2.size hb_25) (fun hHeld2 => ?_)
          clear hK K hHeld; have hHeld := hHeld2; clear hHeld2
          try simp only [Act.put, List.setIfInBounds_toArray, List.set_cons_zero, List.set_cons_succ]
          refine wpAnyH_take (i := 17) (oi := { dst := some 20, op := Op.binOp BinOp.add 9 (Operand.tmp 16) (Operand.tmp 19) 9, type := 9, pos := "ref.go:35", after := #[{ on := 13, ground := Ground.data }, { on := 16, ground := Ground.data }], guard := none }) (v := ?_) rfl (by kernel_rfl) (by kernel_rfl) (by kernel_rfl) (fun _ _ _ h => h) (Or.inl ⟨by rfl, ?_⟩) hHeld ?_
          rotate_left
          · intro w hSw
            try dsimp only at hSw
            go_simp
            try with_reducible rfl
          try simp only [Act.put, List.setIfInBounds_toArray, List.set_cons_zero, List.set_cons_succ]
          refine wpAnyH_ready (rs := [20]) (by kernel_rfl) (by simp) ?_
          refine AllReadyH.cons (o := { dst := some 23, op := Op.call { callee := Callee.value (Operand.func 71), args := #[Operand.tmp 22], argTypes := #[41] }, type := 9, pos := "ref.go:35", after := #[{ on := 19, ground := Ground.data }, { on := 16, ground := Ground.chain }], guard := none }) rfl (fun K hK => ?_) (AllReadyH.nil)
          go_simp
          refine (h5 _).mono ?_; rintro e w_26 ⟨rfl, hb_26⟩
          try go_wp2_with fail
          refine hK.out _ _ (bk_on hHeld hHeld.2.2.2.2.size hb_26) (fun hHeld2 => ?_)
          clear hK K hHeld; have hHeld := hHeld2; clear hHeld2
          try simp only [Act.put, List.setIfInBounds_toArray, List.set_cons_zero, List.set_cons_succ]
          refine wpAnyH_take (i := 21) (oi := { dst := some 24, op := Op.binOp BinOp.add 9 (Operand.tmp 20) (Operand.tmp 23) 9, type := 9, pos := "ref.go:35", after := #[{ on := 17, ground := Ground.data }, { on := 20, ground := Ground.data }], guard := none }) (v := ?_) rfl (by kernel_rfl) (by kernel_rfl) (by kernel_rfl) (fun _ _ _ h => h) (Or.inl ⟨by rfl, ?_⟩) hHeld ?_
          rotate_left
          · intro w hSw
            try dsimp only at hSw
            go_simp
            try with_reducible rfl
          try simp only [Act.put, List.setIfInBounds_toArray, List.set_cons_zero, List.set_cons_succ]
          refine wpAnyH_take (i := 22) (oi := { dst := some 2, op := Op.assign (Operand.tmp 24), type := 9, pos := "ref.go:35", after := #[{ on := 21, ground := Ground.data }, { on := 20, ground := Ground.chain }, { on := 0, ground := Ground.phase }, { on := 1, ground := Ground.phase }, { on := 2, ground := Ground.phase }, { on := 3, ground := Ground.phase }, { on := 4, ground := Ground.phase }, { on := 5, ground := Ground.phase }, { on := 6, ground := Ground.phase }, { on := 7, ground := Ground.phase }, { on := 8, ground := Ground.phase }, { on := 9, ground := Ground.phase }, { on := 10, ground := Ground.phase }, { on := 11, ground := Ground.phase }, { on := 12, ground := Ground.phase }, { on := 13, ground := Ground.phase }, { on := 14, ground := Ground.phase }, { on := 15, ground := Ground.phase }, { on := 16, ground := Ground.phase }, { on := 17, ground := Ground.phase }, { on := 18, ground := Ground.phase }, { on := 19, ground := Ground.phase }, { on := 20, ground := Ground.phase }, { on := 21, ground := Ground.phase }], guard := none }) (v := ?_) rfl (by kernel_rfl) (by kernel_rfl) (by kernel_rfl) (fun _ _ _ h => h) (Or.inl ⟨by rfl, ?_⟩) hHeld ?_
          rotate_left
          · intro w hSw
            try dsimp only at hSw
            go_simp
            try with_reducible rfl
          try simp only [Act.put, List.setIfInBounds_toArray, List.set_cons_zero, List.set_cons_succ]
          refine wpAnyH_done (by kernel_rfl) ?_ _
          obtain ⟨-, -, -, -, hfin⟩ := hHeld
          go_wp2_with fail
          go_ret
          exact ⟨by rw [hres.out]; rfl, hfin⟩
      · skip
        refine wp_ld 41 (.tmp 21) rfl _ (sA q) rfl (ld_seg (k := 11) hHeld.1 Tryd.underlying41 rfl (by kernel_rfl) (by kernel_rfl)) ?_
        refine hK.out _ _ (hHeld) (fun hHeld2 => ?_)
        clear hK K hHeld; have hHeld := hHeld2; clear hHeld2
        try simp only [Act.put, List.setIfInBounds_toArray, List.set_cons_zero, List.set_cons_succ]
        refine wpAnyH_ready (rs := [12, 15]) (by kernel_rfl) (by simp) ?_
        refine AllReadyH.cons (o := { dst := some 15, op := Op.call { callee := Callee.value (Operand.func 70), args := #[Operand.const (Value.int IntKind.i64 4), Operand.tmp 14], argTypes := #[3, 88] }, type := 9, pos := "ref.go:35", after := #[{ on := 11, ground := Ground.data }, { on := 7, ground := Ground.chain }], guard := none }) rfl (fun K hK => ?_) (AllReadyH.cons (o := { dst := some 18, op := Op.load 41 (Operand.tmp 17), type := 41, pos := "ref.go:35", after := #[{ on := 14, ground := Ground.data }], guard := none }) rfl (fun K hK => ?_) (AllReadyH.nil))
        · skip
          go_simp
          refine (h3 _).mono ?_; rintro e w_28 ⟨rfl, hb_28⟩
          try go_wp2_with fail
          refine hK.out _ _ (bk_on hHeld hHeld.2.2.2.2.size hb_28) (fun hHeld2 => ?_)
          clear hK K hHeld; have hHeld := hHeld2; clear hHeld2
          try simp only [Act.put, List.setIfInBounds_toArray, List.set_cons_zero, List.set_cons_succ]
          refine wpAnyH_take (i := 13) (oi := { dst := some 16, op := Op.binOp BinOp.add 9 (Operand.tmp 11) (Operand.tmp 15) 9, type := 9, pos := "ref.go:35", after := #[{ on := 8, ground := Ground.data }, { on := 12, ground := Ground.data }], guard := none }) (v := ?_) rfl (by kernel_rfl) (by kernel_rfl) (by kernel_rfl) (fun _ _ _ h => h) (Or.inl ⟨by rfl, ?_⟩) hHeld ?_
          rotate_left
          · intro w hSw
            try dsimp only at hSw
            go_simp
            try with_reducible rfl
          try simp only [Act.put, List.setIfInBounds_toArray, List.set_cons_zero, List.set_cons_succ]
          refine wpAnyH_ready (rs := [15]) (by kernel_rfl) (by simp) ?_
          refine AllReadyH.cons (o := { dst := some 18, op := Op.load 41 (Operand.tmp 17), type := 41, pos := "ref.go:35", after := #[{ on := 14, ground := Ground.data }], guard := none }) rfl (fun K hK => ?_) (AllReadyH.nil)
          refine wp_ld 41 (.tmp 17) rfl _ (sA p) rfl (ld_seg (k := 3) hHeld.1 Tryd.underlying41 rfl (by kernel_rfl) (by kernel_rfl)) ?_
          refine hK.out _ _ (hHeld) (fun hHeld2 => ?_)
          clear hK K hHeld; have hHeld := hHeld2; clear hHeld2
          try simp only [Act.put, List.setIfInBounds_toArray, List.set_cons_zero, List.set_cons_succ]
          refine wpAnyH_ready (rs := [16]) (by kernel_rfl) (by simp) ?_
          refine AllReadyH.cons (o := { dst := some 19, op := Op.call { callee := Callee.value (Operand.func 71), args := #[Operand.tmp 18], argTypes := #[41] }, type := 9, pos := "ref.go:35", after := #[{ on := 15, ground := Ground.data }, { on := 12, ground := Ground.chain }], guard := none }) rfl (fun K hK => ?_) (AllReadyH.nil)
          go_simp
          refine (h4 _).mono ?_; rintro e w_30 ⟨rfl, hb_30⟩
          try go_wp2_with fail
          refine hK.out _ _ (bk_on hHeld hHeld.2.2.2.2.size hb_30) (fun hHeld2 => ?_)
          clear hK K hHeld; have hHeld := hHeld2; clear hHeld2
          try simp only [Act.put, List.setIfInBounds_toArray, List.set_cons_zero, List.set_cons_succ]
          refine wpAnyH_take (i := 17) (oi := { dst := some 20, op := Op.binOp BinOp.add 9 (Operand.tmp 16) (Operand.tmp 19) 9, type := 9, pos := "ref.go:35", after := #[{ on := 13, ground := Ground.data }, { on := 16, ground := Ground.data }], guard := none }) (v := ?_) rfl (by kernel_rfl) (by kernel_rfl) (by kernel_rfl) (fun _ _ _ h => h) (Or.inl ⟨by rfl, ?_⟩) hHeld ?_
          rotate_left
          · intro w hSw
            try dsimp only at hSw
            go_simp
            try with_reducible rfl
          try simp only [Act.put, List.setIfInBounds_toArray, List.set_cons_zero, List.set_cons_succ]
          refine wpAnyH_ready (rs := [20]) (by kernel_rfl) (by simp) ?_
          refine AllReadyH.cons (o := { dst := some 23, op := Op.call { callee := Callee.value (Operand.func 71), args := #[Operand.tmp 22], argTypes := #[41] }, type := 9, pos := "ref.go:35", after := #[{ on := 19, ground := Ground.data }, { on := 16, ground := Ground.chain }], guard := none }) rfl (fun K hK => ?_) (AllReadyH.nil)
          go_simp
          refine (h5 _).mono ?_; rintro e w_31 ⟨rfl, hb_31⟩
          try go_wp2_with fail
          refine hK.out _ _ (bk_on hHeld hHeld.2.2.2.2.size hb_31) (fun hHeld2 => ?_)
          clear hK K hHeld; have hHeld := hHeld2; clear hHeld2
          try simp only [Act.put, List.setIfInBounds_toArray, List.set_cons_zero, List.set_cons_succ]
          refine wpAnyH_take (i := 21) (oi := { dst := some 24, op := Op.binOp BinOp.add 9 (Operand.tmp 20) (Operand.tmp 23) 9, type := 9, pos := "ref.go:35", after := #[{ on := 17, ground := Ground.data }, { on := 20, ground := Ground.data }], guard := none }) (v := ?_) rfl (by kernel_rfl) (by kernel_rfl) (by kernel_rfl) (fun _ _ _ h => h) (Or.inl ⟨by rfl, ?_⟩) hHeld ?_
          rotate_left
          · intro w hSw
            try dsimp only at hSw
            go_simp
            try with_reducible rfl
          try simp only [Act.put, List.setIfInBounds_toArray, List.set_cons_zero, List.set_cons_succ]
          refine wpAnyH_take (i := 22) (oi := { dst := some 2, op := Op.assign (Operand.tmp 24), type := 9, pos := "ref.go:35", after := #[{ on := 21, ground := Ground.data }, { on := 20, ground := Ground.chain }, { on := 0, ground := Ground.phase }, { on := 1, ground := Ground.phase }, { on := 2, ground := Ground.phase }, { on := 3, ground := Ground.phase }, { on := 4, ground := Ground.phase }, { on := 5, ground := Ground.phase }, { on := 6, ground := Ground.phase }, { on := 7, ground := Ground.phase }, { on := 8, ground := Ground.phase }, { on := 9, ground := Ground.phase }, { on := 10, ground := Ground.phase }, { on := 11, ground := Ground.phase }, { on := 12, ground := Ground.phase }, { on := 13, ground := Ground.phase }, { on := 14, ground := Ground.phase }, { on := 15, ground := Ground.phase }, { on := 16, ground := Ground.phase }, { on := 17, ground := Ground.phase }, { on := 18, ground := Ground.phase }, { on := 19, ground := Ground.phase }, { on := 20, ground := Ground.phase }, { on := 21, ground := Ground.phase }], guard := none }) (v := ?_) rfl (by kernel_rfl) (by kernel_rfl) (by kernel_rfl) (fun _ _ _ h => h) (Or.inl ⟨by rfl, ?_⟩) hHeld ?_
          rotate_left
          · intro w hSw
            try dsimp only at hSw
            go_simp
            try with_reducible rfl
          try simp only [Act.put, List.setIfInBounds_toArray, List.set_cons_zero, List.set_cons_succ]
          refine wpAnyH_done (by kernel_rfl) ?_ _
          obtain ⟨-, -, -, -, hfin⟩ := hHeld
          go_wp2_with fail
          go_ret
          exact ⟨by rw [hres.out]; rfl, hfin⟩
        · skip
          refine wp_ld 41 (.tmp 17) rfl _ (sA p) rfl (ld_seg (k := 3) hHeld.1 Tryd.underlying41 rfl (by kernel_rfl) (by kernel_rfl)) ?_
          refine hK.out _ _ (hHeld) (fun hHeld2 => ?_)
          clear hK K hHeld; have hHeld := hHeld2; clear hHeld2
          try simp only [Act.put, List.setIfInBounds_toArray, List.set_cons_zero, List.set_cons_succ]
          refine wpAnyH_ready (rs := [12]) (by kernel_rfl) (by simp) ?_
          refine AllReadyH.cons (o := { dst := some 15, op := Op.call { callee := Callee.value (Operand.func 70), args := #[Operand.const (Value.int IntKind.i64 4), Operand.tmp 14], argTypes := #[3, 88] }, type := 9, pos := "ref.go:35", after := #[{ on := 11, ground := Ground.data }, { on := 7, ground := Ground.chain }], guard := none }) rfl (fun K hK => ?_) (AllReadyH.nil)
          go_simp
          refine (h3 _).mono ?_; rintro e w_33 ⟨rfl, hb_33⟩
          try go_wp2_with fail
          refine hK.out _ _ (bk_on hHeld hHeld.2.2.2.2.size hb_33) (fun hHeld2 => ?_)
          clear hK K hHeld; have hHeld := hHeld2; clear hHeld2
          try simp only [Act.put, List.setIfInBounds_toArray, List.set_cons_zero, List.set_cons_succ]
          refine wpAnyH_take (i := 13) (oi := { dst := some 16, op := Op.binOp BinOp.add 9 (Operand.tmp 11) (Operand.tmp 15) 9, type := 9, pos := "ref.go:35", after := #[{ on := 8, ground := Ground.data }, { on := 12, ground := Ground.data }], guard := none }) (v := ?_) rfl (by kernel_rfl) (by kernel_rfl) (by kernel_rfl) (fun _ _ _ h => h) (Or.inl ⟨by rfl, ?_⟩) hHeld ?_
          rotate_left
          · intro w hSw
            try dsimp only at hSw
            go_simp
            try with_reducible rfl
          try simp only [Act.put, List.setIfInBounds_toArray, List.set_cons_zero, List.set_cons_succ]
          refine wpAnyH_ready (rs := [16]) (by kernel_rfl) (by simp) ?_
          refine AllReadyH.cons (o := { dst := some 19, op := Op.call { callee := Callee.value (Operand.func 71), args := #[Operand.tmp 18], argTypes := #[41] }, type := 9, pos := "ref.go:35", after := #[{ on := 15, ground := Ground.data }, { on := 12, ground := Ground.chain }], guard := none }) rfl (fun K hK => ?_) (AllReadyH.nil)
          go_simp
          refine (h4 _).mono ?_; rintro e w_34 ⟨rfl, hb_34⟩
          try go_wp2_with fail
          refine hK.out _ _ (bk_on hHeld hHeld.2.2.2.2.size hb_34) (fun hHeld2 => ?_)
          clear hK K hHeld; have hHeld := hHeld2; clear hHeld2
          try simp only [Act.put, List.setIfInBounds_toArray, List.set_cons_zero, List.set_cons_succ]
          refine wpAnyH_take (i := 17) (oi := { dst := some 20, op := Op.binOp BinOp.add 9 (Operand.tmp 16) (Operand.tmp 19) 9, type := 9, pos := "ref.go:35", after := #[{ on := 13, ground := Ground.data }, { on := 16, ground := Ground.data }], guard := none }) (v := ?_) rfl (by kernel_rfl) (by kernel_rfl) (by kernel_rfl) (fun _ _ _ h => h) (Or.inl ⟨by rfl, ?_⟩) hHeld ?_
          rotate_left
          · intro w hSw
            try dsimp only at hSw
            go_simp
            try with_reducible rfl
          try simp only [Act.put, List.setIfInBounds_toArray, List.set_cons_zero, List.set_cons_succ]
          refine wpAnyH_ready (rs := [20]) (by kernel_rfl) (by simp) ?_
          refine AllReadyH.cons (o := { dst := some 23, op := Op.call { callee := Callee.value (Operand.func 71), args := #[Operand.tmp 22], argTypes := #[41] }, type := 9, pos := "ref.go:35", after := #[{ on := 19, ground := Ground.data }, { on := 16, ground := Ground.chain }], guard := none }) rfl (fun K hK => ?_) (AllReadyH.nil)
          go_simp
          refine (h5 _).mono ?_; rintro e w_35 ⟨rfl, hb_35⟩
          try go_wp2_with fail
          refine hK.out _ _ (bk_on hHeld hHeld.2.2.2.2.size hb_35) (fun hHeld2 => ?_)
          clear hK K hHeld; have hHeld := hHeld2; clear hHeld2
          try simp only [Act.put, List.setIfInBounds_toArray, List.set_cons_zero, List.set_cons_succ]
          refine wpAnyH_take (i := 21) (oi := { dst := some 24, op := Op.binOp BinOp.add 9 (Operand.tmp 20) (Operand.tmp 23) 9, type := 9, pos := "ref.go:35", after := #[{ on := 17, ground := Ground.data }, { on := 20, ground := Ground.data }], guard := none }) (v := ?_) rfl (by kernel_rfl) (by kernel_rfl) (by kernel_rfl) (fun _ _ _ h => h) (Or.inl ⟨by rfl, ?_⟩) hHeld ?_
          rotate_left
          · intro w hSw
            try dsimp only at hSw
            go_simp
            try with_reducible rfl
          try simp only [Act.put, List.setIfInBounds_toArray, List.set_cons_zero, List.set_cons_succ]
          refine wpAnyH_take (i := 22) (oi := { dst := some 2, op := Op.assign (Operand.tmp 24), type := 9, pos := "ref.go:35", after := #[{ on := 21, ground := Ground.data }, { on := 20, ground := Ground.chain }, { on := 0, ground := Ground.phase }, { on := 1, ground := Ground.phase }, { on := 2, ground := Ground.phase }, { on := 3, ground := Ground.phase }, { on := 4, ground := Ground.phase }, { on := 5, ground := Ground.phase }, { on := 6, ground := Ground.phase }, { on := 7, ground := Ground.phase }, { on := 8, ground := Ground.phase }, { on := 9, ground := Ground.phase }, { on := 10, ground := Ground.phase }, { on := 11, ground := Ground.phase }, { on := 12, ground := Ground.phase }, { on := 13, ground := Ground.phase }, { on := 14, ground := Ground.phase }, { on := 15, ground := Ground.phase }, { on := 16, ground := Ground.phase }, { on := 17, ground := Ground.phase }, { on := 18, ground := Ground.phase }, { on := 19, ground := Ground.phase }, { on := 20, ground := Ground.phase }, { on := 21, ground := Ground.phase }], guard := none }) (v := ?_) rfl (by kernel_rfl) (by kernel_rfl) (by kernel_rfl) (fun _ _ _ h => h) (Or.inl ⟨by rfl, ?_⟩) hHeld ?_
          rotate_left
          · intro w hSw
            try dsimp only at hSw
            go_simp
            try with_reducible rfl
          try simp only [Act.put, List.setIfInBounds_toArray, List.set_cons_zero, List.set_cons_succ]
          refine wpAnyH_done (by kernel_rfl) ?_ _
          obtain ⟨-, -, -, -, hfin⟩ := hHeld
          go_wp2_with fail
          go_ret
          exact ⟨by rw [hres.out]; rfl, hfin⟩
    · skip
      refine wp_ld 41 (.tmp 17) rfl _ (sA p) rfl (ld_seg (k := 3) hHeld.1 Tryd.underlying41 rfl (by kernel_rfl) (by kernel_rfl)) ?_
      refine hK.out _ _ (hHeld) (fun hHeld2 => ?_)
      clear hK K hHeld; have hHeld := hHeld2; clear hHeld2
      try simp only [Act.put, List.setIfInBounds_toArray, List.set_cons_zero, List.set_cons_succ]
      refine wpAnyH_ready (rs := [7, 19]) (by kernel_rfl) (by simp) ?_
      refine AllReadyH.cons (o := { dst := some 10, op := Op.call { callee := Callee.value (Operand.func 70), args := #[Operand.const (Value.int IntKind.i64 4), Operand.tmp 9], argTypes := #[3, 88] }, type := 9, pos := "ref.go:35", after := #[{ on := 6, ground := Ground.data }, { on := 3, ground := Ground.chain }], guard := none }) rfl (fun K hK => ?_) (AllReadyH.cons (o := { dst := some 22, op := Op.load 41 (Operand.tmp 21), type := 41, pos := "ref.go:35", after := #[{ on := 18, ground := Ground.data }], guard := none }) rfl (fun K hK => ?_) (AllReadyH.nil))
      · skip
        go_simp
        refine (h2 _).mono ?_; rintro e w_37 ⟨rfl, hb_37⟩
        try go_wp2_with fail
        refine hK.out _ _ (bk_on hHeld hHeld.2.2.2.2.size hb_37) (fun hHeld2 => ?_)
        clear hK K hHeld; have hHeld := hHeld2; clear hHeld2
        try simp only [Act.put, List.setIfInBounds_toArray, List.set_cons_zero, List.set_cons_succ]
        refine wpAnyH_take (i := 8) (oi := { dst := some 11, op := Op.binOp BinOp.add 9 (Operand.tmp 6) (Operand.tmp 10) 9, type := 9, pos := "ref.go:35", after := #[{ on := 3, ground := Ground.data }, { on := 7, ground := Ground.data }], guard := none }) (v := ?_) rfl (by kernel_rfl) (by kernel_rfl) (by kernel_rfl) (fun _ _ _ h => h) (Or.inl ⟨by rfl, ?_⟩) hHeld ?_
        rotate_left
        · intro w hSw
          try dsimp only at hSw
          go_simp
          try with_reducible rfl
        try simp only [Act.put, List.setIfInBounds_toArray, List.set_cons_zero, List.set_cons_succ]
        refine wpAnyH_ready (rs := [12, 19]) (by kernel_rfl) (by simp) ?_
        refine AllReadyH.cons (o := { dst := some 15, op := Op.call { callee := Callee.value (Operand.func 70), args := #[Operand.const (Value.int IntKind.i64 4), Operand.tmp 14], argTypes := #[3, 88] }, type := 9, pos := "ref.go:35", after := #[{ on := 11, ground := Ground.data }, { on := 7, ground := Ground.chain }], guard := none }) rfl (fun K hK => ?_) (AllReadyH.cons (o := { dst := some 22, op := Op.load 41 (Operand.tmp 21), type := 41, pos := "ref.go:35", after := #[{ on := 18, ground := Ground.data }], guard := none }) rfl (fun K hK => ?_) (AllReadyH.nil))
        · skip
          go_simp
          refine (h3 _).mono ?_; rintro e w_38 ⟨rfl, hb_38⟩
          try go_wp2_with fail
          refine hK.out _ _ (bk_on hHeld hHeld.2.2.2.2.size hb_38) (fun hHeld2 => ?_)
          clear hK K hHeld; have hHeld := hHeld2; clear hHeld2
          try simp only [Act.put, List.setIfInBounds_toArray, List.set_cons_zero, List.set_cons_succ]
          refine wpAnyH_take (i := 13) (oi := { dst := some 16, op := Op.binOp BinOp.add 9 (Operand.tmp 11) (Operand.tmp 15) 9, type := 9, pos := "ref.go:35", after := #[{ on := 8, ground := Ground.data }, { on := 12, ground := Ground.data }], guard := none }) (v := ?_) rfl (by kernel_rfl) (by kernel_rfl) (by kernel_rfl) (fun _ _ _ h => h) (Or.inl ⟨by rfl, ?_⟩) hHeld ?_
          rotate_left
          · intro w hSw
            try dsimp only at hSw
            go_simp
            try with_reducible rfl
          try simp only [Act.put, List.setIfInBounds_toArray, List.set_cons_zero, List.set_cons_succ]
          refine wpAnyH_ready (rs := [16, 19]) (by kernel_rfl) (by simp) ?_
          refine AllReadyH.cons (o := { dst := some 19, op := Op.call { callee := Callee.value (Operand.func 71), args := #[Operand.tmp 18], argTypes := #[41] }, type := 9, pos := "ref.go:35", after := #[{ on := 15, ground := Ground.data }, { on := 12, ground := Ground.chain }], guard := none }) rfl (fun K hK => ?_) (AllReadyH.cons (o := { dst := some 22, op := Op.load 41 (Operand.tmp 21), type := 41, pos := "ref.go:35", after := #[{ on := 18, ground := Ground.data }], guard := none }) rfl (fun K hK => ?_) (AllReadyH.nil))
          · skip
            go_simp
            refine (h4 _).mono ?_; rintro e w_39 ⟨rfl, hb_39⟩
            try go_wp2_with fail
            refine hK.out _ _ (bk_on hHeld hHeld.2.2.2.2.size hb_39) (fun hHeld2 => ?_)
            clear hK K hHeld; have hHeld := hHeld2; clear hHeld2
            try simp only [Act.put, List.setIfInBounds_toArray, List.set_cons_zero, List.set_cons_succ]
            refine wpAnyH_take (i := 17) (oi := { dst := some 20, op := Op.binOp BinOp.add 9 (Operand.tmp 16) (Operand.tmp 19) 9, type := 9, pos := "ref.go:35", after := #[{ on := 13, ground := Ground.data }, { on := 16, ground := Ground.data }], guard := none }) (v := ?_) rfl (by kernel_rfl) (by kernel_rfl) (by kernel_rfl) (fun _ _ _ h => h) (Or.inl ⟨by rfl, ?_⟩) hHeld ?_
            rotate_left
            · intro w hSw
              try dsimp only at hSw
              go_simp
              try with_reducible rfl
            try simp only [Act.put, List.setIfInBounds_toArray, List.set_cons_zero, List.set_cons_succ]
            refine wpAnyH_ready (rs := [19]) (by kernel_rfl) (by simp) ?_
            refine AllReadyH.cons (o := { dst := some 22, op := Op.load 41 (Operand.tmp 21), type := 41, pos := "ref.go:35", after := #[{ on := 18, ground := Ground.data }], guard := none }) rfl (fun K hK => ?_) (AllReadyH.nil)
            refine wp_ld 41 (.tmp 21) rfl _ (sA q) rfl (ld_seg (k := 11) hHeld.1 Tryd.underlying41 rfl (by kernel_rfl) (by kernel_rfl)) ?_
            refine hK.out _ _ (hHeld) (fun hHeld2 => ?_)
            clear hK K hHeld; have hHeld := hHeld2; clear hHeld2
            try simp only [Act.put, List.setIfInBounds_toArray, List.set_cons_zero, List.set_cons_succ]
            refine wpAnyH_ready (rs := [20]) (by kernel_rfl) (by simp) ?_
            refine AllReadyH.cons (o := { dst := some 23, op := Op.call { callee := Callee.value (Operand.func 71), args := #[Operand.tmp 22], argTypes := #[41] }, type := 9, pos := "ref.go:35", after := #[{ on := 19, ground := Ground.data }, { on := 16, ground := Ground.chain }], guard := none }) rfl (fun K hK => ?_) (AllReadyH.nil)
            go_simp
            refine (h5 _).mono ?_; rintro e w_41 ⟨rfl, hb_41⟩
            try go_wp2_with fail
            refine hK.out _ _ (bk_on hHeld hHeld.2.2.2.2.size hb_41) (fun hHeld2 => ?_)
            clear hK K hHeld; have hHeld := hHeld2; clear hHeld2
            try simp only [Act.put, List.setIfInBounds_toArray, List.set_cons_zero, List.set_cons_succ]
            refine wpAnyH_take (i := 21) (oi := { dst := some 24, op := Op.binOp BinOp.add 9 (Operand.tmp 20) (Operand.tmp 23) 9, type := 9, pos := "ref.go:35", after := #[{ on := 17, ground := Ground.data }, { on := 20, ground := Ground.data }], guard := none }) (v := ?_) rfl (by kernel_rfl) (by kernel_rfl) (by kernel_rfl) (fun _ _ _ h => h) (Or.inl ⟨by rfl, ?_⟩) hHeld ?_
            rotate_left
            · intro w hSw
              try dsimp only at hSw
              go_simp
              try with_reducible rfl
            try simp only [Act.put, List.setIfInBounds_toArray, List.set_cons_zero, List.set_cons_succ]
            refine wpAnyH_take (i := 22) (oi := { dst := some 2, op := Op.assign (Operand.tmp 24), type := 9, pos := "ref.go:35", after := #[{ on := 21, ground := Ground.data }, { on := 20, ground := Ground.chain }, { on := 0, ground := Ground.phase }, { on := 1, ground := Ground.phase }, { on := 2, ground := Ground.phase }, { on := 3, ground := Ground.phase }, { on := 4, ground := Ground.phase }, { on := 5, ground := Ground.phase }, { on := 6, ground := Ground.phase }, { on := 7, ground := Ground.phase }, { on := 8, ground := Ground.phase }, { on := 9, ground := Ground.phase }, { on := 10, ground := Ground.phase }, { on := 11, ground := Ground.phase }, { on := 12, ground := Ground.phase }, { on := 13, ground := Ground.phase }, { on := 14, ground := Ground.phase }, { on := 15, ground := Ground.phase }, { on := 16, ground := Ground.phase }, { on := 17, ground := Ground.phase }, { on := 18, ground := Ground.phase }, { on := 19, ground := Ground.phase }, { on := 20, ground := Ground.phase }, { on := 21, ground := Ground.phase }], guard := none }) (v := ?_) rfl (by kernel_rfl) (by kernel_rfl) (by kernel_rfl) (fun _ _ _ h => h) (Or.inl ⟨by rfl, ?_⟩) hHeld ?_
            rotate_left
            · intro w hSw
              try dsimp only at hSw
              go_simp
              try with_reducible rfl
            try simp only [Act.put, List.setIfInBounds_toArray, List.set_cons_zero, List.set_cons_succ]
            refine wpAnyH_done (by kernel_rfl) ?_ _
            obtain ⟨-, -, -, -, hfin⟩ := hHeld
            go_wp2_with fail
            go_ret
            exact ⟨by rw [hres.out]; rfl, hfin⟩
          · skip
            refine wp_ld 41 (.tmp 21) rfl _ (sA q) rfl (ld_seg (k := 11) hHeld.1 Tryd.underlying41 rfl (by kernel_rfl) (by kernel_rfl)) ?_
            refine hK.out _ _ (hHeld) (fun hHeld2 => ?_)
            clear hK K hHeld; have hHeld := hHeld2; clear hHeld2
            try simp only [Act.put, List.setIfInBounds_toArray, List.set_cons_zero, List.set_cons_succ]
            refine wpAnyH_ready (rs := [16]) (by kernel_rfl) (by simp) ?_
            refine AllReadyH.cons (o := { dst := some 19, op := Op.call { callee := Callee.value (Operand.func 71), args := #[Operand.tmp 18], argTypes := #[41] }, type := 9, pos := "ref.go:35", after := #[{ on := 15, ground := Ground.data }, { on := 12, ground := Ground.chain }], guard := none }) rfl (fun K hK => ?_) (AllReadyH.nil)
            go_simp
            refine (h4 _).mono ?_; rintro e w_43 ⟨rfl, hb_43⟩
            try go_wp2_with fail
            refine hK.out _ _ (bk_on hHeld hHeld.2.2.2.2.size hb_43) (fun hHeld2 => ?_)
            clear hK K hHeld; have hHeld := hHeld2; clear hHeld2
            try simp only [Act.put, List.setIfInBounds_toArray, List.set_cons_zero, List.set_cons_succ]
            refine wpAnyH_take (i := 17) (oi := { dst := some 20, op := Op.binOp BinOp.add 9 (Operand.tmp 16) (Operand.tmp 19) 9, type := 9, pos := "ref.go:35", after := #[{ on := 13, ground := Ground.data }, { on := 16, ground := Ground.data }], guard := none }) (v := ?_) rfl (by kernel_rfl) (by kernel_rfl) (by kernel_rfl) (fun _ _ _ h => h) (Or.inl ⟨by rfl, ?_⟩) hHeld ?_
            rotate_left
            · intro w hSw
              try dsimp only at hSw
              go_simp
              try with_reducible rfl
            try simp only [Act.put, List.setIfInBounds_toArray, List.set_cons_zero, List.set_cons_succ]
            refine wpAnyH_ready (rs := [20]) (by kernel_rfl) (by simp) ?_
            refine AllReadyH.cons (o := { dst := some 23, op := Op.call { callee := Callee.value (Operand.func 71), args := #[Operand.tmp 22], argTypes := #[41] }, type := 9, pos := "ref.go:35", after := #[{ on := 19, ground := Ground.data }, { on := 16, ground := Ground.chain }], guard := none }) rfl (fun K hK => ?_) (AllReadyH.nil)
            go_simp
            refine (h5 _).mono ?_; rintro e w_44 ⟨rfl, hb_44⟩
            try go_wp2_with fail
            refine hK.out _ _ (bk_on hHeld hHeld.2.2.2.2.size hb_44) (fun hHeld2 => ?_)
            clear hK K hHeld; have hHeld := hHeld2; clear hHeld2
            try simp only [Act.put, List.setIfInBounds_toArray, List.set_cons_zero, List.set_cons_succ]
            refine wpAnyH_take (i := 21) (oi := { dst := some 24, op := Op.binOp BinOp.add 9 (Operand.tmp 20) (Operand.tmp 23) 9, type := 9, pos := "ref.go:35", after := #[{ on := 17, ground := Ground.data }, { on := 20, ground := Ground.data }], guard := none }) (v := ?_) rfl (by kernel_rfl) (by kernel_rfl) (by kernel_rfl) (fun _ _ _ h => h) (Or.inl ⟨by rfl, ?_⟩) hHeld ?_
            rotate_left
            · intro w hSw
              try dsimp only at hSw
              go_simp
              try with_reducible rfl
            try simp only [Act.put, List.setIfInBounds_toArray, List.set_cons_zero, List.set_cons_succ]
            refine wpAnyH_take (i := 22) (oi := { dst := some 2, op := Op.assign (Operand.tmp 24), type := 9, pos := "ref.go:35", after := #[{ on := 21, ground := Ground.data }, { on := 20, ground := Ground.chain }, { on := 0, ground := Ground.phase }, { on := 1, ground := Ground.phase }, { on := 2, ground := Ground.phase }, { on := 3, ground := Ground.phase }, { on := 4, ground := Ground.phase }, { on := 5, ground := Ground.phase }, { on := 6, ground := Ground.phase }, { on := 7, ground := Ground.phase }, { on := 8, ground := Ground.phase }, { on := 9, ground := Ground.phase }, { on := 10, ground := Ground.phase }, { on := 11, ground := Ground.phase }, { on := 12, ground := Ground.phase }, { on := 13, ground := Ground.phase }, { on := 14, ground := Ground.phase }, { on := 15, ground := Ground.phase }, { on := 16, ground := Ground.phase }, { on := 17, ground := Ground.phase }, { on := 18, ground := Ground.phase }, { on := 19, ground := Ground.phase }, { on := 20, ground := Ground.phase }, { on := 21, ground := Ground.phase }], guard := none }) (v := ?_) rfl (by kernel_rfl) (by kernel_rfl) (by kernel_rfl) (fun _ _ _ h => h) (Or.inl ⟨by rfl, ?_⟩) hHeld ?_
            rotate_left
            · intro w hSw
              try dsimp only at hSw
              go_simp
              try with_reducible rfl
            try simp only [Act.put, List.setIfInBounds_toArray, List.set_cons_zero, List.set_cons_succ]
            refine wpAnyH_done (by kernel_rfl) ?_ _
            obtain ⟨-, -, -, -, hfin⟩ := hHeld
            go_wp2_with fail
            go_ret
            exact ⟨by rw [hres.out]; rfl, hfin⟩
        · skip
          refine wp_ld 41 (.tmp 21) rfl _ (sA q) rfl (ld_seg (k := 11) hHeld.1 Tryd.underlying41 rfl (by kernel_rfl) (by kernel_rfl)) ?_
          refine hK.out _ _ (hHeld) (fun hHeld2 => ?_)
          clear hK K hHeld; have hHeld := hHeld2; clear hHeld2
          try simp only [Act.put, List.setIfInBounds_toArray, List.set_cons_zero, List.set_cons_succ]
          refine wpAnyH_ready (rs := [12]) (by kernel_rfl) (by simp) ?_
          refine AllReadyH.cons (o := { dst := some 15, op := Op.call { callee := Callee.value (Operand.func 70), args := #[Operand.const (Value.int IntKind.i64 4), Operand.tmp 14], argTypes := #[3, 88] }, type := 9, pos := "ref.go:35", after := #[{ on := 11, ground := Ground.data }, { on := 7, ground := Ground.chain }], guard := none }) rfl (fun K hK => ?_) (AllReadyH.nil)
          go_simp
          refine (h3 _).mono ?_; rintro e w_46 ⟨rfl, hb_46⟩
          try go_wp2_with fail
          refine hK.out _ _ (bk_on hHeld hHeld.2.2.2.2.size hb_46) (fun hHeld2 => ?_)
          clear hK K hHeld; have hHeld := hHeld2; clear hHeld2
          try simp only [Act.put, List.setIfInBounds_toArray, List.set_cons_zero, List.set_cons_succ]
          refine wpAnyH_take (i := 13) (oi := { dst := some 16, op := Op.binOp BinOp.add 9 (Operand.tmp 11) (Operand.tmp 15) 9, type := 9, pos := "ref.go:35", after := #[{ on := 8, ground := Ground.data }, { on := 12, ground := Ground.data }], guard := none }) (v := ?_) rfl (by kernel_rfl) (by kernel_rfl) (by kernel_rfl) (fun _ _ _ h => h) (Or.inl ⟨by rfl, ?_⟩) hHeld ?_
          rotate_left
          · intro w hSw
            try dsimp only at hSw
            go_simp
            try with_reducible rfl
          try simp only [Act.put, List.setIfInBounds_toArray, List.set_cons_zero, List.set_cons_succ]
          refine wpAnyH_ready (rs := [16]) (by kernel_rfl) (by simp) ?_
          refine AllReadyH.cons (o := { dst := some 19, op := Op.call { callee := Callee.value (Operand.func 71), args := #[Operand.tmp 18], argTypes := #[41] }, type := 9, pos := "ref.go:35", after := #[{ on := 15, ground := Ground.data }, { on := 12, ground := Ground.chain }], guard := none }) rfl (fun K hK => ?_) (AllReadyH.nil)
          go_simp
          refine (h4 _).mono ?_; rintro e w_47 ⟨rfl, hb_47⟩
          try go_wp2_with fail
          refine hK.out _ _ (bk_on hHeld hHeld.2.2.2.2.size hb_47) (fun hHeld2 => ?_)
          clear hK K hHeld; have hHeld := hHeld2; clear hHeld2
          try simp only [Act.put, List.setIfInBounds_toArray, List.set_cons_zero, List.set_cons_succ]
          refine wpAnyH_take (i := 17) (oi := { dst := some 20, op := Op.binOp BinOp.add 9 (Operand.tmp 16) (Operand.tmp 19) 9, type := 9, pos := "ref.go:35", after := #[{ on := 13, ground := Ground.data }, { on := 16, ground := Ground.data }], guard := none }) (v := ?_) rfl (by kernel_rfl) (by kernel_rfl) (by kernel_rfl) (fun _ _ _ h => h) (Or.inl ⟨by rfl, ?_⟩) hHeld ?_
          rotate_left
          · intro w hSw
            try dsimp only at hSw
            go_simp
            try with_reducible rfl
          try simp only [Act.put, List.setIfInBounds_toArray, List.set_cons_zero, List.set_cons_succ]
          refine wpAnyH_ready (rs := [20]) (by kernel_rfl) (by simp) ?_
          refine AllReadyH.cons (o := { dst := some 23, op := Op.call { callee := Callee.value (Operand.func 71), args := #[Operand.tmp 22], argTypes := #[41] }, type := 9, pos := "ref.go:35", after := #[{ on := 19, ground := Ground.data }, { on := 16, ground := Ground.chain }], guard := none }) rfl (fun K hK => ?_) (AllReadyH.nil)
          go_simp
          refine (h5 _).mono ?_; rintro e w_48 ⟨rfl, hb_48⟩
          try go_wp2_with fail
          refine hK.out _ _ (bk_on hHeld hHeld.2.2.2.2.size hb_48) (fun hHeld2 => ?_)
          clear hK K hHeld; have hHeld := hHeld2; clear hHeld2
          try simp only [Act.put, List.setIfInBounds_toArray, List.set_cons_zero, List.set_cons_succ]
          refine wpAnyH_take (i := 21) (oi := { dst := some 24, op := Op.binOp BinOp.add 9 (Operand.tmp 20) (Operand.tmp 23) 9, type := 9, pos := "ref.go:35", after := #[{ on := 17, ground := Ground.data }, { on := 20, ground := Ground.data }], guard := none }) (v := ?_) rfl (by kernel_rfl) (by kernel_rfl) (by kernel_rfl) (fun _ _ _ h => h) (Or.inl ⟨by rfl, ?_⟩) hHeld ?_
          rotate_left
          · intro w hSw
            try dsimp only at hSw
            go_simp
            try with_reducible rfl
          try simp only [Act.put, List.setIfInBounds_toArray, List.set_cons_zero, List.set_cons_succ]
          refine wpAnyH_take (i := 22) (oi := { dst := some 2, op := Op.assign (Operand.tmp 24), type := 9, pos := "ref.go:35", after := #[{ on := 21, ground := Ground.data }, { on := 20, ground := Ground.chain }, { on := 0, ground := Ground.phase }, { on := 1, ground := Ground.phase }, { on := 2, ground := Ground.phase }, { on := 3, ground := Ground.phase }, { on := 4, ground := Ground.phase }, { on := 5, ground := Ground.phase }, { on := 6, ground := Ground.phase }, { on := 7, ground := Ground.phase }, { on := 8, ground := Ground.phase }, { on := 9, ground := Ground.phase }, { on := 10, ground := Ground.phase }, { on := 11, ground := Ground.phase }, { on := 12, ground := Ground.phase }, { on := 13, ground := Ground.phase }, { on := 14, ground := Ground.phase }, { on := 15, ground := Ground.phase }, { on := 16, ground := Ground.phase }, { on := 17, ground := Ground.phase }, { on := 18, ground := Ground.phase }, { on := 19, ground := Ground.phase }, { on := 20, ground := Ground.phase }, { on := 21, ground := Ground.phase }], guard := none }) (v := ?_) rfl (by kernel_rfl) (by kernel_rfl) (by kernel_rfl) (fun _ _ _ h => h) (Or.inl ⟨by rfl, ?_⟩) hHeld ?_
          rotate_left
          · intro w hSw
            try dsimp only at hSw
            go_simp
            try with_reducible rfl
          try simp only [Act.put, List.setIfInBounds_toArray, List.set_cons_zero, List.set_cons_succ]
          refine wpAnyH_done (by kernel_rfl) ?_ _
          obtain ⟨-, -, -, -, hfin⟩ := hHeld
          go_wp2_with fail
          go_ret
          exact ⟨by rw [hres.out]; rfl, hfin⟩
      · skip
        refine wp_ld 41 (.tmp 21) rfl _ (sA q) rfl (ld_seg (k := 11) hHeld.1 Tryd.underlying41 rfl (by kernel_rfl) (by kernel_rfl)) ?_
        refine hK.out _ _ (hHeld) (fun hHeld2 => ?_)
        clear hK K hHeld; have hHeld := hHeld2; clear hHeld2
        try simp only [Act.put, List.setIfInBounds_toArray, List.set_cons_zero, List.set_cons_succ]
        refine wpAnyH_ready (rs := [7]) (by kernel_rfl) (by simp) ?_
        refine AllReadyH.cons (o := { dst := some 10, op := Op.call { callee := Callee.value (Operand.func 70), args := #[Operand.const (Value.int IntKind.i64 4), Operand.tmp 9], argTypes := #[3, 88] }, type := 9, pos := "ref.go:35", after := #[{ on := 6, ground := Ground.data }, { on := 3, ground := Ground.chain }], guard := none }) rfl (fun K hK => ?_) (AllReadyH.nil)
        go_simp
        refine (h2 _).mono ?_; rintro e w_50 ⟨rfl, hb_50⟩
        try go_wp2_with fail
        refine hK.out _ _ (bk_on hHeld hHeld.2.2.2.2.size hb_50) (fun hHeld2 => ?_)
        clear hK K hHeld; have hHeld := hHeld2; clear hHeld2
        try simp only [Act.put, List.setIfInBounds_toArray, List.set_cons_zero, List.set_cons_succ]
        refine wpAnyH_take (i := 8) (oi := { dst := some 11, op := Op.binOp BinOp.add 9 (Operand.tmp 6) (Operand.tmp 10) 9, type := 9, pos := "ref.go:35", after := #[{ on := 3, ground := Ground.data }, { on := 7, ground := Ground.data }], guard := none }) (v := ?_) rfl (by kernel_rfl) (by kernel_rfl) (by kernel_rfl) (fun _ _ _ h => h) (Or.inl ⟨by rfl, ?_⟩) hHeld ?_
        rotate_left
        · intro w hSw
          try dsimp only at hSw
          go_simp
          try with_reducible rfl
        try simp only [Act.put, List.setIfInBounds_toArray, List.set_cons_zero, List.set_cons_succ]
        refine wpAnyH_ready (rs := [12]) (by kernel_rfl) (by simp) ?_
        refine AllReadyH.cons (o := { dst := some 15, op := Op.call { callee := Callee.value (Operand.func 70), args := #[Operand.const (Value.int IntKind.i64 4), Operand.tmp 14], argTypes := #[3, 88] }, type := 9, pos := "ref.go:35", after := #[{ on := 11, ground := Ground.data }, { on := 7, ground := Ground.chain }], guard := none }) rfl (fun K hK => ?_) (AllReadyH.nil)
        go_simp
        refine (h3 _).mono ?_; rintro e w_51 ⟨rfl, hb_51⟩
        try go_wp2_with fail
        refine hK.out _ _ (bk_on hHeld hHeld.2.2.2.2.size hb_51) (fun hHeld2 => ?_)
        clear hK K hHeld; have hHeld := hHeld2; clear hHeld2
        try simp only [Act.put, List.setIfInBounds_toArray, List.set_cons_zero, List.set_cons_succ]
        refine wpAnyH_take (i := 13) (oi := { dst := some 16, op := Op.binOp BinOp.add 9 (Operand.tmp 11) (Operand.tmp 15) 9, type := 9, pos := "ref.go:35", after := #[{ on := 8, ground := Ground.data }, { on := 12, ground := Ground.data }], guard := none }) (v := ?_) rfl (by kernel_rfl) (by kernel_rfl) (by kernel_rfl) (fun _ _ _ h => h) (Or.inl ⟨by rfl, ?_⟩) hHeld ?_
        rotate_left
        · intro w hSw
          try dsimp only at hSw
          go_simp
          try with_reducible rfl
        try simp only [Act.put, List.setIfInBounds_toArray, List.set_cons_zero, List.set_cons_succ]
        refine wpAnyH_ready (rs := [16]) (by kernel_rfl) (by simp) ?_
        refine AllReadyH.cons (o := { dst := some 19, op := Op.call { callee := Callee.value (Operand.func 71), args := #[Operand.tmp 18], argTypes := #[41] }, type := 9, pos := "ref.go:35", after := #[{ on := 15, ground := Ground.data }, { on := 12, ground := Ground.chain }], guard := none }) rfl (fun K hK => ?_) (AllReadyH.nil)
        go_simp
        refine (h4 _).mono ?_; rintro e w_52 ⟨rfl, hb_52⟩
        try go_wp2_with fail
        refine hK.out _ _ (bk_on hHeld hHeld.2.2.2.2.size hb_52) (fun hHeld2 => ?_)
        clear hK K hHeld; have hHeld := hHeld2; clear hHeld2
        try simp only [Act.put, List.setIfInBounds_toArray, List.set_cons_zero, List.set_cons_succ]
        refine wpAnyH_take (i := 17) (oi := { dst := some 20, op := Op.binOp BinOp.add 9 (Operand.tmp 16) (Operand.tmp 19) 9, type := 9, pos := "ref.go:35", after := #[{ on := 13, ground := Ground.data }, { on := 16, ground := Ground.data }], guard := none }) (v := ?_) rfl (by kernel_rfl) (by kernel_rfl) (by kernel_rfl) (fun _ _ _ h => h) (Or.inl ⟨by rfl, ?_⟩) hHeld ?_
        rotate_left
        · intro w hSw
          try dsimp only at hSw
          go_simp
          try with_reducible rfl
        try simp only [Act.put, List.setIfInBounds_toArray, List.set_cons_zero, List.set_cons_succ]
        refine wpAnyH_ready (rs := [20]) (by kernel_rfl) (by simp) ?_
        refine AllReadyH.cons (o := { dst := some 23, op := Op.call { callee := Callee.value (Operand.func 71), args := #[Operand.tmp 22], argTypes := #[41] }, type := 9, pos := "ref.go:35", after := #[{ on := 19, ground := Ground.data }, { on := 16, ground := Ground.chain }], guard := none }) rfl (fun K hK => ?_) (AllReadyH.nil)
        go_simp
        refine (h5 _).mono ?_; rintro e w_53 ⟨rfl, hb_53⟩
        try go_wp2_with fail
        refine hK.out _ _ (bk_on hHeld hHeld.2.2.2.2.size hb_53) (fun hHeld2 => ?_)
        clear hK K hHeld; have hHeld := hHeld2; clear hHeld2
        try simp only [Act.put, List.setIfInBounds_toArray, List.set_cons_zero, List.set_cons_succ]
        refine wpAnyH_take (i := 21) (oi := { dst := some 24, op := Op.binOp BinOp.add 9 (Operand.tmp 20) (Operand.tmp 23) 9, type := 9, pos := "ref.go:35", after := #[{ on := 17, ground := Ground.data }, { on := 20, ground := Ground.data }], guard := none }) (v := ?_) rfl (by kernel_rfl) (by kernel_rfl) (by kernel_rfl) (fun _ _ _ h => h) (Or.inl ⟨by rfl, ?_⟩) hHeld ?_
        rotate_left
        · intro w hSw
          try dsimp only at hSw
          go_simp
          try with_reducible rfl
        try simp only [Act.put, List.setIfInBounds_toArray, List.set_cons_zero, List.set_cons_succ]
        refine wpAnyH_take (i := 22) (oi := { dst := some 2, op := Op.assign (Operand.tmp 24), type := 9, pos := "ref.go:35", after := #[{ on := 21, ground := Ground.data }, { on := 20, ground := Ground.chain }, { on := 0, ground := Ground.phase }, { on := 1, ground := Ground.phase }, { on := 2, ground := Ground.phase }, { on := 3, ground := Ground.phase }, { on := 4, ground := Ground.phase }, { on := 5, ground := Ground.phase }, { on := 6, ground := Ground.phase }, { on := 7, ground := Ground.phase }, { on := 8, ground := Ground.phase }, { on := 9, ground := Ground.phase }, { on := 10, ground := Ground.phase }, { on := 11, ground := Ground.phase }, { on := 12, ground := Ground.phase }, { on := 13, ground := Ground.phase }, { on := 14, ground := Ground.phase }, { on := 15, ground := Ground.phase }, { on := 16, ground := Ground.phase }, { on := 17, ground := Ground.phase }, { on := 18, ground := Ground.phase }, { on := 19, ground := Ground.phase }, { on := 20, ground := Ground.phase }, { on := 21, ground := Ground.phase }], guard := none }) (v := ?_) rfl (by kernel_rfl) (by kernel_rfl) (by kernel_rfl) (fun _ _ _ h => h) (Or.inl ⟨by rfl, ?_⟩) hHeld ?_
        rotate_left
        · intro w hSw
          try dsimp only at hSw
          go_simp
          try with_reducible rfl
        try simp only [Act.put, List.setIfInBounds_toArray, List.set_cons_zero, List.set_cons_succ]
        refine wpAnyH_done (by kernel_rfl) ?_ _
        obtain ⟨-, -, -, -, hfin⟩ := hHeld
        go_wp2_with fail
        go_ret
        exact ⟨by rw [hres.out]; rfl, hfin⟩
    · skip
      refine wp_ld 41 (.tmp 21) rfl _ (sA q) rfl (ld_seg (k := 11) hHeld.1 Tryd.underlying41 rfl (by kernel_rfl) (by kernel_rfl)) ?_
      refine hK.out _ _ (hHeld) (fun hHeld2 => ?_)
      clear hK K hHeld; have hHeld := hHeld2; clear hHeld2
      try simp only [Act.put, List.setIfInBounds_toArray, List.set_cons_zero, List.set_cons_succ]
      refine wpAnyH_ready (rs := [7, 15]) (by kernel_rfl) (by simp) ?_
      refine AllReadyH.cons (o := { dst := some 10, op := Op.call { callee := Callee.value (Operand.func 70), args := #[Operand.const (Value.int IntKind.i64 4), Operand.tmp 9], argTypes := #[3, 88] }, type := 9, pos := "ref.go:35", after := #[{ on := 6, ground := Ground.data }, { on := 3, ground := Ground.chain }], guard := none }) rfl (fun K hK => ?_) (AllReadyH.cons (o := { dst := some 18, op := Op.load 41 (Operand.tmp 17), type := 41, pos := "ref.go:35", after := #[{ on := 14, ground := Ground.data }], guard := none }) rfl (fun K hK => ?_) (AllReadyH.nil))
      · skip
        go_simp
        refine (h2 _).mono ?_; rintro e w_55 ⟨rfl, hb_55⟩
        try go_wp2_with fail
        refine hK.out _ _ (bk_on hHeld hHeld.2.2.2.2.size hb_55) (fun hHeld2 => ?_)
        clear hK K hHeld; have hHeld := hHeld2; clear hHeld2
        try simp only [Act.put, List.setIfInBounds_toArray, List.set_cons_zero, List.set_cons_succ]
        refine wpAnyH_take (i := 8) (oi := { dst := some 11, op := Op.binOp BinOp.add 9 (Operand.tmp 6) (Operand.tmp 10) 9, type := 9, pos := "ref.go:35", after := #[{ on := 3, ground := Ground.data }, { on := 7, ground := Ground.data }], guard := none }) (v := ?_) rfl (by kernel_rfl) (by kernel_rfl) (by kernel_rfl) (fun _ _ _ h => h) (Or.inl ⟨by rfl, ?_⟩) hHeld ?_
        rotate_left
        · intro w hSw
          try dsimp only at hSw
          go_simp
          try with_reducible rfl
        try simp only [Act.put, List.setIfInBounds_toArray, List.set_cons_zero, List.set_cons_succ]
        refine wpAnyH_ready (rs := [12, 15]) (by kernel_rfl) (by simp) ?_
        refine AllReadyH.cons (o := { dst := some 15, op := Op.call { callee := Callee.value (Operand.func 70), args := #[Operand.const (Value.int IntKind.i64 4), Operand.tmp 14], argTypes := #[3, 88] }, type := 9, pos := "ref.go:35", after := #[{ on := 11, ground := Ground.data }, { on := 7, ground := Ground.chain }], guard := none }) rfl (fun K hK => ?_) (AllReadyH.cons (o := { dst := some 18, op := Op.load 41 (Operand.tmp 17), type := 41, pos := "ref.go:35", after := #[{ on := 14, ground := Ground.data }], guard := none }) rfl (fun K hK => ?_) (AllReadyH.nil))
        · skip
          go_simp
          refine (h3 _).mono ?_; rintro e w_56 ⟨rfl, hb_56⟩
          try go_wp2_with fail
          refine hK.out _ _ (bk_on hHeld hHeld.2.2.2.2.size hb_56) (fun hHeld2 => ?_)
          clear hK K hHeld; have hHeld := hHeld2; clear hHeld2
          try simp only [Act.put, List.setIfInBounds_toArray, List.set_cons_zero, List.set_cons_succ]
          refine wpAnyH_take (i := 13) (oi := { dst := some 16, op := Op.binOp BinOp.add 9 (Operand.tmp 11) (Operand.tmp 15) 9, type := 9, pos := "ref.go:35", after := #[{ on := 8, ground := Ground.data }, { on := 12, ground := Ground.data }], guard := none }) (v := ?_) rfl (by kernel_rfl) (by kernel_rfl) (by kernel_rfl) (fun _ _ _ h => h) (Or.inl ⟨by rfl, ?_⟩) hHeld ?_
          rotate_left
          · intro w hSw
            try dsimp only at hSw
            go_simp
            try with_reducible rfl
          try simp only [Act.put, List.setIfInBounds_toArray, List.set_cons_zero, List.set_cons_succ]
          refine wpAnyH_ready (rs := [15]) (by kernel_rfl) (by simp) ?_
          refine AllReadyH.cons (o := { dst := some 18, op := Op.load 41 (Operand.tmp 17), type := 41, pos := "ref.go:35", after := #[{ on := 14, ground := Ground.data }], guard := none }) rfl (fun K hK => ?_) (AllReadyH.nil)
          refine wp_ld 41 (.tmp 17) rfl _ (sA p) rfl (ld_seg (k := 3) hHeld.1 Tryd.underlying41 rfl (by kernel_rfl) (by kernel_rfl)) ?_
          refine hK.out _ _ (hHeld) (fun hHeld2 => ?_)
          clear hK K hHeld; have hHeld := hHeld2; clear hHeld2
          try simp only [Act.put, List.setIfInBounds_toArray, List.set_cons_zero, List.set_cons_succ]
          refine wpAnyH_ready (rs := [16]) (by kernel_rfl) (by simp) ?_
          refine AllReadyH.cons (o := { dst := some 19, op := Op.call { callee := Callee.value (Operand.func 71), args := #[Operand.tmp 18], argTypes := #[41] }, type := 9, pos := "ref.go:35", after := #[{ on := 15, ground := Ground.data }, { on := 12, ground := Ground.chain }], guard := none }) rfl (fun K hK => ?_) (AllReadyH.nil)
          go_simp
          refine (h4 _).mono ?_; rintro e w_58 ⟨rfl, hb_58⟩
          try go_wp2_with fail
          refine hK.out _ _ (bk_on hHeld hHeld.2.2.2.2.size hb_58) (fun hHeld2 => ?_)
          clear hK K hHeld; have hHeld := hHeld2; clear hHeld2
          try simp only [Act.put, List.setIfInBounds_toArray, List.set_cons_zero, List.set_cons_succ]
          refine wpAnyH_take (i := 17) (oi := { dst := some 20, op := Op.binOp BinOp.add 9 (Operand.tmp 16) (Operand.tmp 19) 9, type := 9, pos := "ref.go:35", after := #[{ on := 13, ground := Ground.data }, { on := 16, ground := Ground.data }], guard := none }) (v := ?_) rfl (by kernel_rfl) (by kernel_rfl) (by kernel_rfl) (fun _ _ _ h => h) (Or.inl ⟨by rfl, ?_⟩) hHeld ?_
          rotate_left
          · intro w hSw
            try dsimp only at hSw
            go_simp
            try with_reducible rfl
          try simp only [Act.put, List.setIfInBounds_toArray, List.set_cons_zero, List.set_cons_succ]
          refine wpAnyH_ready (rs := [20]) (by kernel_rfl) (by simp) ?_
          refine AllReadyH.cons (o := { dst := some 23, op := Op.call { callee := Callee.value (Operand.func 71), args := #[Operand.tmp 22], argTypes := #[41] }, type := 9, pos := "ref.go:35", after := #[{ on := 19, ground := Ground.data }, { on := 16, ground := Ground.chain }], guard := none }) rfl (fun K hK => ?_) (AllReadyH.nil)
          go_simp
          refine (h5 _).mono ?_; rintro e w_59 ⟨rfl, hb_59⟩
          try go_wp2_with fail
          refine hK.out _ _ (bk_on hHeld hHeld.2.2.2.2.size hb_59) (fun hHeld2 => ?_)
          clear hK K hHeld; have hHeld := hHeld2; clear hHeld2
          try simp only [Act.put, List.setIfInBounds_toArray, List.set_cons_zero, List.set_cons_succ]
          refine wpAnyH_take (i := 21) (oi := { dst := some 24, op := Op.binOp BinOp.add 9 (Operand.tmp 20) (Operand.tmp 23) 9, type := 9, pos := "ref.go:35", after := #[{ on := 17, ground := Ground.data }, { on := 20, ground := Ground.data }], guard := none }) (v := ?_) rfl (by kernel_rfl) (by kernel_rfl) (by kernel_rfl) (fun _ _ _ h => h) (Or.inl ⟨by rfl, ?_⟩) hHeld ?_
          rotate_left
          · intro w hSw
            try dsimp only at hSw
            go_simp
            try with_reducible rfl
          try simp only [Act.put, List.setIfInBounds_toArray, List.set_cons_zero, List.set_cons_succ]
          refine wpAnyH_take (i := 22) (oi := { dst := some 2, op := Op.assign (Operand.tmp 24), type := 9, pos := "ref.go:35", after := #[{ on := 21, ground := Ground.data }, { on := 20, ground := Ground.chain }, { on := 0, ground := Ground.phase }, { on := 1, ground := Ground.phase }, { on := 2, ground := Ground.phase }, { on := 3, ground := Ground.phase }, { on := 4, ground := Ground.phase }, { on := 5, ground := Ground.phase }, { on := 6, ground := Ground.phase }, { on := 7, ground := Ground.phase }, { on := 8, ground := Ground.phase }, { on := 9, ground := Ground.phase }, { on := 10, ground := Ground.phase }, { on := 11, ground := Ground.phase }, { on := 12, ground := Ground.phase }, { on := 13, ground := Ground.phase }, { on := 14, ground := Ground.phase }, { on := 15, ground := Ground.phase }, { on := 16, ground := Ground.phase }, { on := 17, ground := Ground.phase }, { on := 18, ground := Ground.phase }, { on := 19, ground := Ground.phase }, { on := 20, ground := Ground.phase }, { on := 21, ground := Ground.phase }], guard := none }) (v := ?_) rfl (by kernel_rfl) (by kernel_rfl) (by kernel_rfl) (fun _ _ _ h => h) (Or.inl ⟨by rfl, ?_⟩) hHeld ?_
          rotate_left
          · intro w hSw
            try dsimp only at hSw
            go_simp
            try with_reducible rfl
          try simp only [Act.put, List.setIfInBounds_toArray, List.set_cons_zero, List.set_cons_succ]
          refine wpAnyH_done (by kernel_rfl) ?_ _
          obtain ⟨-, -, -, -, hfin⟩ := hHeld
          go_wp2_with fail
          go_ret
          exact ⟨by rw [hres.out]; rfl, hfin⟩
        · skip
          refine wp_ld 41 (.tmp 17) rfl _ (sA p) rfl (ld_seg (k := 3) hHeld.1 Tryd.underlying41 rfl (by kernel_rfl) (by kernel_rfl)) ?_
          refine hK.out _ _ (hHeld) (fun hHeld2 => ?_)
          clear hK K hHeld; have hHeld := hHeld2; clear hHeld2
          try simp only [Act.put, List.setIfInBounds_toArray, List.set_cons_zero, List.set_cons_succ]
          refine wpAnyH_ready (rs := [12]) (by kernel_rfl) (by simp) ?_
          refine AllReadyH.cons (o := { dst := some 15, op := Op.call { callee := Callee.value (Operand.func 70), args := #[Operand.const (Value.int IntKind.i64 4), Operand.tmp 14], argTypes := #[3, 88] }, type := 9, pos := "ref.go:35", after := #[{ on := 11, ground := Ground.data }, { on := 7, ground := Ground.chain }], guard := none }) rfl (fun K hK => ?_) (AllReadyH.nil)
          go_simp
          refine (h3 _).mono ?_; rintro e w_61 ⟨rfl, hb_61⟩
          try go_wp2_with fail
          refine hK.out _ _ (bk_on hHeld hHeld.2.2.2.2.size hb_61) (fun hHeld2 => ?_)
          clear hK K hHeld; have hHeld := hHeld2; clear hHeld2
          try simp only [Act.put, List.setIfInBounds_toArray, List.set_cons_zero, List.set_cons_succ]
          refine wpAnyH_take (i := 13) (oi := { dst := some 16, op := Op.binOp BinOp.add 9 (Operand.tmp 11) (Operand.tmp 15) 9, type := 9, pos := "ref.go:35", after := #[{ on := 8, ground := Ground.data }, { on := 12, ground := Ground.data }], guard := none }) (v := ?_) rfl (by kernel_rfl) (by kernel_rfl) (by kernel_rfl) (fun _ _ _ h => h) (Or.inl ⟨by rfl, ?_⟩) hHeld ?_
          rotate_left
          · intro w hSw
            try dsimp only at hSw
            go_simp
            try with_reducible rfl
          try simp only [Act.put, List.setIfInBounds_toArray, List.set_cons_zero, List.set_cons_succ]
          refine wpAnyH_ready (rs := [16]) (by kernel_rfl) (by simp) ?_
          refine AllReadyH.cons (o := { dst := some 19, op := Op.call { callee := Callee.value (Operand.func 71), args := #[Operand.tmp 18], argTypes := #[41] }, type := 9, pos := "ref.go:35", after := #[{ on := 15, ground := Ground.data }, { on := 12, ground := Ground.chain }], guard := none }) rfl (fun K hK => ?_) (AllReadyH.nil)
          go_simp
          refine (h4 _).mono ?_; rintro e w_62 ⟨rfl, hb_62⟩
          try go_wp2_with fail
          refine hK.out _ _ (bk_on hHeld hHeld.2.2.2.2.size hb_62) (fun hHeld2 => ?_)
          clear hK K hHeld; have hHeld := hHeld2; clear hHeld2
          try simp only [Act.put, List.setIfInBounds_toArray, List.set_cons_zero, List.set_cons_succ]
          refine wpAnyH_take (i := 17) (oi := { dst := some 20, op := Op.binOp BinOp.add 9 (Operand.tmp 16) (Operand.tmp 19) 9, type := 9, pos := "ref.go:35", after := #[{ on := 13, ground := Ground.data }, { on := 16, ground := Ground.data }], guard := none }) (v := ?_) rfl (by kernel_rfl) (by kernel_rfl) (by kernel_rfl) (fun _ _ _ h => h) (Or.inl ⟨by rfl, ?_⟩) hHeld ?_
          rotate_left
          · intro w hSw
            try dsimp only at hSw
            go_simp
            try with_reducible rfl
          try simp only [Act.put, List.setIfInBounds_toArray, List.set_cons_zero, List.set_cons_succ]
          refine wpAnyH_ready (rs := [20]) (by kernel_rfl) (by simp) ?_
          refine AllReadyH.cons (o := { dst := some 23, op := Op.call { callee := Callee.value (Operand.func 71), args := #[Operand.tmp 22], argTypes := #[41] }, type := 9, pos := "ref.go:35", after := #[{ on := 19, ground := Ground.data }, { on := 16, ground := Ground.chain }], guard := none }) rfl (fun K hK => ?_) (AllReadyH.nil)
          go_simp
          refine (h5 _).mono ?_; rintro e w_63 ⟨rfl, hb_63⟩
          try go_wp2_with fail
          refine hK.out _ _ (bk_on hHeld hHeld.2.2.2.2.size hb_63) (fun hHeld2 => ?_)
          clear hK K hHeld; have hHeld := hHeld2; clear hHeld2
          try simp only [Act.put, List.setIfInBounds_toArray, List.set_cons_zero, List.set_cons_succ]
          refine wpAnyH_take (i := 21) (oi := { dst := some 24, op := Op.binOp BinOp.add 9 (Operand.tmp 20) (Operand.tmp 23) 9, type := 9, pos := "ref.go:35", after := #[{ on := 17, ground := Ground.data }, { on := 20, ground := Ground.data }], guard := none }) (v := ?_) rfl (by kernel_rfl) (by kernel_rfl) (by kernel_rfl) (fun _ _ _ h => h) (Or.inl ⟨by rfl, ?_⟩) hHeld ?_
          rotate_left
          · intro w hSw
            try dsimp only at hSw
            go_simp
            try with_reducible rfl
          try simp only [Act.put, List.setIfInBounds_toArray, List.set_cons_zero, List.set_cons_succ]
          refine wpAnyH_take (i := 22) (oi := { dst := some 2, op := Op.assign (Operand.tmp 24), type := 9, pos := "ref.go:35", after := #[{ on := 21, ground := Ground.data }, { on := 20, ground := Ground.chain }, { on := 0, ground := Ground.phase }, { on := 1, ground := Ground.phase }, { on := 2, ground := Ground.phase }, { on := 3, ground := Ground.phase }, { on := 4, ground := Ground.phase }, { on := 5, ground := Ground.phase }, { on := 6, ground := Ground.phase }, { on := 7, ground := Ground.phase }, { on := 8, ground := Ground.phase }, { on := 9, ground := Ground.phase }, { on := 10, ground := Ground.phase }, { on := 11, ground := Ground.phase }, { on := 12, ground := Ground.phase }, { on := 13, ground := Ground.phase }, { on := 14, ground := Ground.phase }, { on := 15, ground := Ground.phase }, { on := 16, ground := Ground.phase }, { on := 17, ground := Ground.phase }, { on := 18, ground := Ground.phase }, { on := 19, ground := Ground.phase }, { on := 20, ground := Ground.phase }, { on := 21, ground := Ground.phase }], guard := none }) (v := ?_) rfl (by kernel_rfl) (by kernel_rfl) (by kernel_rfl) (fun _ _ _ h => h) (Or.inl ⟨by rfl, ?_⟩) hHeld ?_
          rotate_left
          · intro w hSw
            try dsimp only at hSw
            go_simp
            try with_reducible rfl
          try simp only [Act.put, List.setIfInBounds_toArray, List.set_cons_zero, List.set_cons_succ]
          refine wpAnyH_done (by kernel_rfl) ?_ _
          obtain ⟨-, -, -, -, hfin⟩ := hHeld
          go_wp2_with fail
          go_ret
          exact ⟨by rw [hres.out]; rfl, hfin⟩
      · skip
        refine wp_ld 41 (.tmp 17) rfl _ (sA p) rfl (ld_seg (k := 3) hHeld.1 Tryd.underlying41 rfl (by kernel_rfl) (by kernel_rfl)) ?_
        refine hK.out _ _ (hHeld) (fun hHeld2 => ?_)
        clear hK K hHeld; have hHeld := hHeld2; clear hHeld2
        try simp only [Act.put, List.setIfInBounds_toArray, List.set_cons_zero, List.set_cons_succ]
        refine wpAnyH_ready (rs := [7]) (by kernel_rfl) (by simp) ?_
        refine AllReadyH.cons (o := { dst := some 10, op := Op.call { callee := Callee.value (Operand.func 70), args := #[Operand.const (Value.int IntKind.i64 4), Operand.tmp 9], argTypes := #[3, 88] }, type := 9, pos := "ref.go:35", after := #[{ on := 6, ground := Ground.data }, { on := 3, ground := Ground.chain }], guard := none }) rfl (fun K hK => ?_) (AllReadyH.nil)
        go_simp
        refine (h2 _).mono ?_; rintro e w_65 ⟨rfl, hb_65⟩
        try go_wp2_with fail
        refine hK.out _ _ (bk_on hHeld hHeld.2.2.2.2.size hb_65) (fun hHeld2 => ?_)
        clear hK K hHeld; have hHeld := hHeld2; clear hHeld2
        try simp only [Act.put, List.setIfInBounds_toArray, List.set_cons_zero, List.set_cons_succ]
        refine wpAnyH_take (i := 8) (oi := { dst := some 11, op := Op.binOp BinOp.add 9 (Operand.tmp 6) (Operand.tmp 10) 9, type := 9, pos := "ref.go:35", after := #[{ on := 3, ground := Ground.data }, { on := 7, ground := Ground.data }], guard := none }) (v := ?_) rfl (by kernel_rfl) (by kernel_rfl) (by kernel_rfl) (fun _ _ _ h => h) (Or.inl ⟨by rfl, ?_⟩) hHeld ?_
        rotate_left
        · intro w hSw
          try dsimp only at hSw
          go_simp
          try with_reducible rfl
        try simp only [Act.put, List.setIfInBounds_toArray, List.set_cons_zero, List.set_cons_succ]
        refine wpAnyH_ready (rs := [12]) (by kernel_rfl) (by simp) ?_
        refine AllReadyH.cons (o := { dst := some 15, op := Op.call { callee := Callee.value (Operand.func 70), args := #[Operand.const (Value.int IntKind.i64 4), Operand.tmp 14], argTypes := #[3, 88] }, type := 9, pos := "ref.go:35", after := #[{ on := 11, ground := Ground.data }, { on := 7, ground := Ground.chain }], guard := none }) rfl (fun K hK => ?_) (AllReadyH.nil)
        go_simp
        refine (h3 _).mono ?_; rintro e w_66 ⟨rfl, hb_66⟩
        try go_wp2_with fail
        refine hK.out _ _ (bk_on hHeld hHeld.2.2.2.2.size hb_66) (fun hHeld2 => ?_)
        clear hK K hHeld; have hHeld := hHeld2; clear hHeld2
        try simp only [Act.put, List.setIfInBounds_toArray, List.set_cons_zero, List.set_cons_succ]
        refine wpAnyH_take (i := 13) (oi := { dst := some 16, op := Op.binOp BinOp.add 9 (Operand.tmp 11) (Operand.tmp 15) 9, type := 9, pos := "ref.go:35", after := #[{ on := 8, ground := Ground.data }, { on := 12, ground := Ground.data }], guard := none }) (v := ?_) rfl (by kernel_rfl) (by kernel_rfl) (by kernel_rfl) (fun _ _ _ h => h) (Or.inl ⟨by rfl, ?_⟩) hHeld ?_
        rotate_left
        · intro w hSw
          try dsimp only at hSw
          go_simp
          try with_reducible rfl
        try simp only [Act.put, List.setIfInBounds_toArray, List.set_cons_zero, List.set_cons_succ]
        refine wpAnyH_ready (rs := [16]) (by kernel_rfl) (by simp) ?_
        refine AllReadyH.cons (o := { dst := some 19, op := Op.call { callee := Callee.value (Operand.func 71), args := #[Operand.tmp 18], argTypes := #[41] }, type := 9, pos := "ref.go:35", after := #[{ on := 15, ground := Ground.data }, { on := 12, ground := Ground.chain }], guard := none }) rfl (fun K hK => ?_) (AllReadyH.nil)
        go_simp
        refine (h4 _).mono ?_; rintro e w_67 ⟨rfl, hb_67⟩
        try go_wp2_with fail
        refine hK.out _ _ (bk_on hHeld hHeld.2.2.2.2.size hb_67) (fun hHeld2 => ?_)
        clear hK K hHeld; have hHeld := hHeld2; clear hHeld2
        try simp only [Act.put, List.setIfInBounds_toArray, List.set_cons_zero, List.set_cons_succ]
        refine wpAnyH_take (i := 17) (oi := { dst := some 20, op := Op.binOp BinOp.add 9 (Operand.tmp 16) (Operand.tmp 19) 9, type := 9, pos := "ref.go:35", after := #[{ on := 13, ground := Ground.data }, { on := 16, ground := Ground.data }], guard := none }) (v := ?_) rfl (by kernel_rfl) (by kernel_rfl) (by kernel_rfl) (fun _ _ _ h => h) (Or.inl ⟨by rfl, ?_⟩) hHeld ?_
        rotate_left
        · intro w hSw
          try dsimp only at hSw
          go_simp
          try with_reducible rfl
        try simp only [Act.put, List.setIfInBounds_toArray, List.set_cons_zero, List.set_cons_succ]
        refine wpAnyH_ready (rs := [20]) (by kernel_rfl) (by simp) ?_
        refine AllReadyH.cons (o := { dst := some 23, op := Op.call { callee := Callee.value (Operand.func 71), args := #[Operand.tmp 22], argTypes := #[41] }, type := 9, pos := "ref.go:35", after := #[{ on := 19, ground := Ground.data }, { on := 16, ground := Ground.chain }], guard := none }) rfl (fun K hK => ?_) (AllReadyH.nil)
        go_simp
        refine (h5 _).mono ?_; rintro e w_68 ⟨rfl, hb_68⟩
        try go_wp2_with fail
        refine hK.out _ _ (bk_on hHeld hHeld.2.2.2.2.size hb_68) (fun hHeld2 => ?_)
        clear hK K hHeld; have hHeld := hHeld2; clear hHeld2
        try simp only [Act.put, List.setIfInBounds_toArray, List.set_cons_zero, List.set_cons_succ]
        refine wpAnyH_take (i := 21) (oi := { dst := some 24, op := Op.binOp BinOp.add 9 (Operand.tmp 20) (Operand.tmp 23) 9, type := 9, pos := "ref.go:35", after := #[{ on := 17, ground := Ground.data }, { on := 20, ground := Ground.data }], guard := none }) (v := ?_) rfl (by kernel_rfl) (by kernel_rfl) (by kernel_rfl) (fun _ _ _ h => h) (Or.inl ⟨by rfl, ?_⟩) hHeld ?_
        rotate_left
        · intro w hSw
          try dsimp only at hSw
          go_simp
          try with_reducible rfl
        try simp only [Act.put, List.setIfInBounds_toArray, List.set_cons_zero, List.set_cons_succ]
        refine wpAnyH_take (i := 22) (oi := { dst := some 2, op := Op.assign (Operand.tmp 24), type := 9, pos := "ref.go:35", after := #[{ on := 21, ground := Ground.data }, { on := 20, ground := Ground.chain }, { on := 0, ground := Ground.phase }, { on := 1, ground := Ground.phase }, { on := 2, ground := Ground.phase }, { on := 3, ground := Ground.phase }, { on := 4, ground := Ground.phase }, { on := 5, ground := Ground.phase }, { on := 6, ground := Ground.phase }, { on := 7, ground := Ground.phase }, { on := 8, ground := Ground.phase }, { on := 9, ground := Ground.phase }, { on := 10, ground := Ground.phase }, { on := 11, ground := Ground.phase }, { on := 12, ground := Ground.phase }, { on := 13, ground := Ground.phase }, { on := 14, ground := Ground.phase }, { on := 15, ground := Ground.phase }, { on := 16, ground := Ground.phase }, { on := 17, ground := Ground.phase }, { on := 18, ground := Ground.phase }, { on := 19, ground := Ground.phase }, { on := 20, ground := Ground.phase }, { on := 21, ground := Ground.phase }], guard := none }) (v := ?_) rfl (by kernel_rfl) (by kernel_rfl) (by kernel_rfl) (fun _ _ _ h => h) (Or.inl ⟨by rfl, ?_⟩) hHeld ?_
        rotate_left
        · intro w hSw
          try dsimp only at hSw
          go_simp
          try with_reducible rfl
        try simp only [Act.put, List.setIfInBounds_toArray, List.set_cons_zero, List.set_cons_succ]
        refine wpAnyH_done (by kernel_rfl) ?_ _
        obtain ⟨-, -, -, -, hfin⟩ := hHeld
        go_wp2_with fail
        go_ret
        exact ⟨by rw [hres.out]; rfl, hfin⟩
  · skip
    refine wp_ld 41 (.tmp 17) rfl _ (sA p) rfl (ld_seg (k := 3) hHeld.1 Tryd.underlying41 rfl (by kernel_rfl) (by kernel_rfl)) ?_
    refine hK.out _ _ (hHeld) (fun hHeld2 => ?_)
    clear hK K hHeld; have hHeld := hHeld2; clear hHeld2
    try simp only [Act.put, List.setIfInBounds_toArray, List.set_cons_zero, List.set_cons_succ]
    refine wpAnyH_ready (rs := [3, 19]) (by kernel_rfl) (by simp) ?_
    refine AllReadyH.cons (o := { dst := some 6, op := Op.call { callee := Callee.value (Operand.func 70), args := #[Operand.const (Value.int IntKind.i64 4), Operand.tmp 5], argTypes := #[3, 88] }, type := 9, pos := "ref.go:35", after := #[{ on := 2, ground := Ground.data }], guard := none }) rfl (fun K hK => ?_) (AllReadyH.cons (o := { dst := some 22, op := Op.load 41 (Operand.tmp 21), type := 41, pos := "ref.go:35", after := #[{ on := 18, ground := Ground.data }], guard := none }) rfl (fun K hK => ?_) (AllReadyH.nil))
    · skip
      go_simp
      refine (h1 _).mono ?_; rintro e w_70 ⟨rfl, hb_70⟩
      try go_wp2_with fail
      refine hK.out _ _ (bk_on hHeld hHeld.2.2.2.2.size hb_70) (fun hHeld2 => ?_)
      clear hK K hHeld; have hHeld := hHeld2; clear hHeld2
      try simp only [Act.put, List.setIfInBounds_toArray, List.set_cons_zero, List.set_cons_succ]
      refine wpAnyH_ready (rs := [7, 19]) (by kernel_rfl) (by simp) ?_
      refine AllReadyH.cons (o := { dst := some 10, op := Op.call { callee := Callee.value (Operand.func 70), args := #[Operand.const (Value.int IntKind.i64 4), Operand.tmp 9], argTypes := #[3, 88] }, type := 9, pos := "ref.go:35", after := #[{ on := 6, ground := Ground.data }, { on := 3, ground := Ground.chain }], guard := none }) rfl (fun K hK => ?_) (AllReadyH.cons (o := { dst := some 22, op := Op.load 41 (Operand.tmp 21), type := 41, pos := "ref.go:35", after := #[{ on := 18, ground := Ground.data }], guard := none }) rfl (fun K hK => ?_) (AllReadyH.nil))
      · skip
        go_simp
        refine (h2 _).mono ?_; rintro e w_71 ⟨rfl, hb_71⟩
        try go_wp2_with fail
        refine hK.out _ _ (bk_on hHeld hHeld.2.2.2.2.size hb_71) (fun hHeld2 => ?_)
        clear hK K hHeld; have hHeld := hHeld2; clear hHeld2
        try simp only [Act.put, List.setIfInBounds_toArray, List.set_cons_zero, List.set_cons_succ]
        refine wpAnyH_take (i := 8) (oi := { dst := some 11, op := Op.binOp BinOp.add 9 (Operand.tmp 6) (Operand.tmp 10) 9, type := 9, pos := "ref.go:35", after := #[{ on := 3, ground := Ground.data }, { on := 7, ground := Ground.data }], guard := none }) (v := ?_) rfl (by kernel_rfl) (by kernel_rfl) (by kernel_rfl) (fun _ _ _ h => h) (Or.inl ⟨by rfl, ?_⟩) hHeld ?_
        rotate_left
        · intro w hSw
          try dsimp only at hSw
          go_simp
          try with_reducible rfl
        try simp only [Act.put, List.setIfInBounds_toArray, List.set_cons_zero, List.set_cons_succ]
        refine wpAnyH_ready (rs := [12, 19]) (by kernel_rfl) (by simp) ?_
        refine AllReadyH.cons (o := { dst := some 15, op := Op.call { callee := Callee.value (Operand.func 70), args := #[Operand.const (Value.int IntKind.i64 4), Operand.tmp 14], argTypes := #[3, 88] }, type := 9, pos := "ref.go:35", after := #[{ on := 11, ground := Ground.data }, { on := 7, ground := Ground.chain }], guard := none }) rfl (fun K hK => ?_) (AllReadyH.cons (o := { dst := some 22, op := Op.load 41 (Operand.tmp 21), type := 41, pos := "ref.go:35", after := #[{ on := 18, ground := Ground.data }], guard := none }) rfl (fun K hK => ?_) (AllReadyH.nil))
        · skip
          go_simp
          refine (h3 _).mono ?_; rintro e w_72 ⟨rfl, hb_72⟩
          try go_wp2_with fail
          refine hK.out _ _ (bk_on hHeld hHeld.2.2.2.2.size hb_72) (fun hHeld2 => ?_)
          clear hK K hHeld; have hHeld := hHeld2; clear hHeld2
          try simp only [Act.put, List.setIfInBounds_toArray, List.set_cons_zero, List.set_cons_succ]
          refine wpAnyH_take (i := 13) (oi := { dst := some 16, op := Op.binOp BinOp.add 9 (Operand.tmp 11) (Operand.tmp 15) 9, type := 9, pos := "ref.go:35", after := #[{ on := 8, ground := Ground.data }, { on := 12, ground := Ground.data }], guard := none }) (v := ?_) rfl (by kernel_rfl) (by kernel_rfl) (by kernel_rfl) (fun _ _ _ h => h) (Or.inl ⟨by rfl, ?_⟩) hHeld ?_
          rotate_left
          · intro w hSw
            try dsimp only at hSw
            go_simp
            try with_reducible rfl
          try simp only [Act.put, List.setIfInBounds_toArray, List.set_cons_zero, List.set_cons_succ]
          refine wpAnyH_ready (rs := [16, 19]) (by kernel_rfl) (by simp) ?_
          refine AllReadyH.cons (o := { dst := some 19, op := Op.call { callee := Callee.value (Operand.func 71), args := #[Operand.tmp 18], argTypes := #[41] }, type := 9, pos := "ref.go:35", after := #[{ on := 15, ground := Ground.data }, { on := 12, ground := Ground.chain }], guard := none }) rfl (fun K hK => ?_) (AllReadyH.cons (o := { dst := some 22, op := Op.load 41 (Operand.tmp 21), type := 41, pos := "ref.go:35", after := #[{ on := 18, ground := Ground.data }], guard := none }) rfl (fun K hK => ?_) (AllReadyH.nil))
          · skip
            go_simp
            refine (h4 _).mono ?_; rintro e w_73 ⟨rfl, hb_73⟩
            try go_wp2_with fail
            refine hK.out _ _ (bk_on hHeld hHeld.2.2.2.2.size hb_73) (fun hHeld2 => ?_)
            clear hK K hHeld; have hHeld := hHeld2; clear hHeld2
            try simp only [Act.put, List.setIfInBounds_toArray, List.set_cons_zero, List.set_cons_succ]
            refine wpAnyH_take (i := 17) (oi := { dst := some 20, op := Op.binOp BinOp.add 9 (Operand.tmp 16) (Operand.tmp 19) 9, type := 9, pos := "ref.go:35", after := #[{ on := 13, ground := Ground.data }, { on := 16, ground := Ground.data }], guard := none }) (v := ?_) rfl (by kernel_rfl) (by kernel_rfl) (by kernel_rfl) (fun _ _ _ h => h) (Or.inl ⟨by rfl, ?_⟩) hHeld ?_
            rotate_left
            · intro w hSw
              try dsimp only at hSw
              go_simp
              try with_reducible rfl
            try simp only [Act.put, List.setIfInBounds_toArray, List.set_cons_zero, List.set_cons_succ]
            refine wpAnyH_ready (rs := [19]) (by kernel_rfl) (by simp) ?_
            refine AllReadyH.cons (o := { dst := some 22, op := Op.load 41 (Operand.tmp 21), type := 41, pos := "ref.go:35", after := #[{ on := 18, ground := Ground.data }], guard := none }) rfl (fun K hK => ?_) (AllReadyH.nil)
            refine wp_ld 41 (.tmp 21) rfl _ (sA q) rfl (ld_seg (k := 11) hHeld.1 Tryd.underlying41 rfl (by kernel_rfl) (by kernel_rfl)) ?_
            refine hK.out _ _ (hHeld) (fun hHeld2 => ?_)
            clear hK K hHeld; have hHeld := hHeld2; clear hHeld2
            try simp only [Act.put, List.setIfInBounds_toArray, List.set_cons_zero, List.set_cons_succ]
            refine wpAnyH_ready (rs := [20]) (by kernel_rfl) (by simp) ?_
            refine AllReadyH.cons (o := { dst := some 23, op := Op.call { callee := Callee.value (Operand.func 71), args := #[Operand.tmp 22], argTypes := #[41] }, type := 9, pos := "ref.go:35", after := #[{ on := 19, ground := Ground.data }, { on := 16, ground := Ground.chain }], guard := none }) rfl (fun K hK => ?_) (AllReadyH.nil)
            go_simp
            refine (h5 _).mono ?_; rintro e w_75 ⟨rfl, hb_75⟩
            try go_wp2_with fail
            refine hK.out _ _ (bk_on hHeld hHeld.2.2.2.2.size hb_75) (fun hHeld2 => ?_)
            clear hK K hHeld; have hHeld := hHeld2; clear hHeld2
            try simp only [Act.put, List.setIfInBounds_toArray, List.set_cons_zero, List.set_cons_succ]
            refine wpAnyH_take (i := 21) (oi := { dst := some 24, op := Op.binOp BinOp.add 9 (Operand.tmp 20) (Operand.tmp 23) 9, type := 9, pos := "ref.go:35", after := #[{ on := 17, ground := Ground.data }, { on := 20, ground := Ground.data }], guard := none }) (v := ?_) rfl (by kernel_rfl) (by kernel_rfl) (by kernel_rfl) (fun _ _ _ h => h) (Or.inl ⟨by rfl, ?_⟩) hHeld ?_
            rotate_left
            · intro w hSw
              try dsimp only at hSw
              go_simp
              try with_reducible rfl
            try simp only [Act.put, List.setIfInBounds_toArray, List.set_cons_zero, List.set_cons_succ]
            refine wpAnyH_take (i := 22) (oi := { dst := some 2, op := Op.assign (Operand.tmp 24), type := 9, pos := "ref.go:35", after := #[{ on := 21, ground := Ground.data }, { on := 20, ground := Ground.chain }, { on := 0, ground := Ground.phase }, { on := 1, ground := Ground.phase }, { on := 2, ground := Ground.phase }, { on := 3, ground := Ground.phase }, { on := 4, ground := Ground.phase }, { on := 5, ground := Ground.phase }, { on := 6, ground := Ground.phase }, { on := 7, ground := Ground.phase }, { on := 8, ground := Ground.phase }, { on := 9, ground := Ground.phase }, { on := 10, ground := Ground.phase }, { on := 11, ground := Ground.phase }, { on := 12, ground := Ground.phase }, { on := 13, ground := Ground.phase }, { on := 14, ground := Ground.phase }, { on := 15, ground := Ground.phase }, { on := 16, ground := Ground.phase }, { on := 17, ground := Ground.phase }, { on := 18, ground := Ground.phase }, { on := 19, ground := Ground.phase }, { on := 20, ground := Ground.phase }, { on := 21, ground := Ground.phase }], guard := none }) (v := ?_) rfl (by kernel_rfl) (by kernel_rfl) (by kernel_rfl) (fun _ _ _ h => h) (Or.inl ⟨by rfl, ?_⟩) hHeld ?_
            rotate_left
            · intro w hSw
              try dsimp only at hSw
              go_simp
              try with_reducible rfl
            try simp only [Act.put, List.setIfInBounds_toArray, List.set_cons_zero, List.set_cons_succ]
            refine wpAnyH_done (by kernel_rfl) ?_ _
            obtain ⟨-, -, -, -, hfin⟩ := hHeld
            go_wp2_with fail
            go_ret
            exact ⟨by rw [hres.out]; rfl, hfin⟩
          · skip
            refine wp_ld 41 (.tmp 21) rfl _ (sA q) rfl (ld_seg (k := 11) hHeld.1 Tryd.underlying41 rfl (by kernel_rfl) (by kernel_rfl)) ?_
            refine hK.out _ _ (hHeld) (fun hHeld2 => ?_)
            clear hK K hHeld; have hHeld := hHeld2; clear hHeld2
            try simp only [Act.put, List.setIfInBounds_toArray, List.set_cons_zero, List.set_cons_succ]
            refine wpAnyH_ready (rs := [16]) (by kernel_rfl) (by simp) ?_
            refine AllReadyH.cons (o := { dst := some 19, op := Op.call { callee := Callee.value (Operand.func 71), args := #[Operand.tmp 18], argTypes := #[41] }, type := 9, pos := "ref.go:35", after := #[{ on := 15, ground := Ground.data }, { on := 12, ground := Ground.chain }], guard := none }) rfl (fun K hK => ?_) (AllReadyH.nil)
            go_simp
            refine (h4 _).mono ?_; rintro e w_77 ⟨rfl, hb_77⟩
            try go_wp2_with fail
            refine hK.out _ _ (bk_on hHeld hHeld.2.2.2.2.size hb_77) (fun hHeld2 => ?_)
            clear hK K hHeld; have hHeld := hHeld2; clear hHeld2
            try simp only [Act.put, List.setIfInBounds_toArray, List.set_cons_zero, List.set_cons_succ]
            refine wpAnyH_take (i := 17) (oi := { dst := some 20, op := Op.binOp BinOp.add 9 (Operand.tmp 16) (Operand.tmp 19) 9, type := 9, pos := "ref.go:35", after := #[{ on := 13, ground := Ground.data }, { on := 16, ground := Ground.data }], guard := none }) (v := ?_) rfl (by kernel_rfl) (by kernel_rfl) (by kernel_rfl) (fun _ _ _ h => h) (Or.inl ⟨by rfl, ?_⟩) hHeld ?_
            rotate_left
            · intro w hSw
              try dsimp only at hSw
              go_simp
              try with_reducible rfl
            try simp only [Act.put, List.setIfInBounds_toArray, List.set_cons_zero, List.set_cons_succ]
            refine wpAnyH_ready (rs := [20]) (by kernel_rfl) (by simp) ?_
            refine AllReadyH.cons (o := { dst := some 23, op := Op.call { callee := Callee.value (Operand.func 71), args := #[Operand.tmp 22], argTypes := #[41] }, type := 9, pos := "ref.go:35", after := #[{ on := 19, ground := Ground.data }, { on := 16, ground := Ground.chain }], guard := none }) rfl (fun K hK => ?_) (AllReadyH.nil)
            go_simp
            refine (h5 _).mono ?_; rintro e w_78 ⟨rfl, hb_78⟩
            try go_wp2_with fail
            refine hK.out _ _ (bk_on hHeld hHeld.2.2.2.2.size hb_78) (fun hHeld2 => ?_)
            clear hK K hHeld; have hHeld := hHeld2; clear hHeld2
            try simp only [Act.put, List.setIfInBounds_toArray, List.set_cons_zero, List.set_cons_succ]
            refine wpAnyH_take (i := 21) (oi := { dst := some 24, op := Op.binOp BinOp.add 9 (Operand.tmp 20) (Operand.tmp 23) 9, type := 9, pos := "ref.go:35", after := #[{ on := 17, ground := Ground.data }, { on := 20, ground := Ground.data }], guard := none }) (v := ?_) rfl (by kernel_rfl) (by kernel_rfl) (by kernel_rfl) (fun _ _ _ h => h) (Or.inl ⟨by rfl, ?_⟩) hHeld ?_
            rotate_left
            · intro w hSw
              try dsimp only at hSw
              go_simp
              try with_reducible rfl
            try simp only [Act.put, List.setIfInBounds_toArray, List.set_cons_zero, List.set_cons_succ]
            refine wpAnyH_take (i := 22) (oi := { dst := some 2, op := Op.assign (Operand.tmp 24), type := 9, pos := "ref.go:35", after := #[{ on := 21, ground := Ground.data }, { on := 20, ground := Ground.chain }, { on := 0, ground := Ground.phase }, { on := 1, ground := Ground.phase }, { on := 2, ground := Ground.phase }, { on := 3, ground := Ground.phase }, { on := 4, ground := Ground.phase }, { on := 5, ground := Ground.phase }, { on := 6, ground := Ground.phase }, { on := 7, ground := Ground.phase }, { on := 8, ground := Ground.phase }, { on := 9, ground := Ground.phase }, { on := 10, ground := Ground.phase }, { on := 11, ground := Ground.phase }, { on := 12, ground := Ground.phase }, { on := 13, ground := Ground.phase }, { on := 14, ground := Ground.phase }, { on := 15, ground := Ground.phase }, { on := 16, ground := Ground.phase }, { on := 17, ground := Ground.phase }, { on := 18, ground := Ground.phase }, { on := 19, ground := Ground.phase }, { on := 20, ground := Ground.phase }, { on := 21, ground := Ground.phase }], guard := none }) (v := ?_) rfl (by kernel_rfl) (by kernel_rfl) (by kernel_rfl) (fun _ _ _ h => h) (Or.inl ⟨by rfl, ?_⟩) hHeld ?_
            rotate_left
            · intro w hSw
              try dsimp only at hSw
              go_simp
              try with_reducible rfl
            try simp only [Act.put, List.setIfInBounds_toArray, List.set_cons_zero, List.set_cons_succ]
            refine wpAnyH_done (by kernel_rfl) ?_ _
            obtain ⟨-, -, -, -, hfin⟩ := hHeld
            go_wp2_with fail
            go_ret
            exact ⟨by rw [hres.out]; rfl, hfin⟩
        · skip
          refine wp_ld 41 (.tmp 21) rfl _ (sA q) rfl (ld_seg (k := 11) hHeld.1 Tryd.underlying41 rfl (by kernel_rfl) (by kernel_rfl)) ?_
          refine hK.out _ _ (hHeld) (fun hHeld2 => ?_)
          clear hK K hHeld; have hHeld := hHeld2; clear hHeld2
          try simp only [Act.put, List.setIfInBounds_toArray, List.set_cons_zero, List.set_cons_succ]
          refine wpAnyH_ready (rs := [12]) (by kernel_rfl) (by simp) ?_
          refine AllReadyH.cons (o := { dst := some 15, op := Op.call { callee := Callee.value (Operand.func 70), args := #[Operand.const (Value.int IntKind.i64 4), Operand.tmp 14], argTypes := #[3, 88] }, type := 9, pos := "ref.go:35", after := #[{ on := 11, ground := Ground.data }, { on := 7, ground := Ground.chain }], guard := none }) rfl (fun K hK => ?_) (AllReadyH.nil)
          go_simp
          refine (h3 _).mono ?_; rintro e w_80 ⟨rfl, hb_80⟩
          try go_wp2_with fail
          refine hK.out _ _ (bk_on hHeld hHeld.2.2.2.2.size hb_80) (fun hHeld2 => ?_)
          clear hK K hHeld; have hHeld := hHeld2; clear hHeld2
          try simp only [Act.put, List.setIfInBounds_toArray, List.set_cons_zero, List.set_cons_succ]
          refine wpAnyH_take (i := 13) (oi := { dst := some 16, op := Op.binOp BinOp.add 9 (Operand.tmp 11) (Operand.tmp 15) 9, type := 9, pos := "ref.go:35", after := #[{ on := 8, ground := Ground.data }, { on := 12, ground := Ground.data }], guard := none }) (v := ?_) rfl (by kernel_rfl) (by kernel_rfl) (by kernel_rfl) (fun _ _ _ h => h) (Or.inl ⟨by rfl, ?_⟩) hHeld ?_
          rotate_left
          · intro w hSw
            try dsimp only at hSw
            go_simp
            try with_reducible rfl
          try simp only [Act.put, List.setIfInBounds_toArray, List.set_cons_zero, List.set_cons_succ]
          refine wpAnyH_ready (rs := [16]) (by kernel_rfl) (by simp) ?_
          refine AllReadyH.cons (o := { dst := some 19, op := Op.call { callee := Callee.value (Operand.func 71), args := #[Operand.tmp 18], argTypes := #[41] }, type := 9, pos := "ref.go:35", after := #[{ on := 15, ground := Ground.data }, { on := 12, ground := Ground.chain }], guard := none }) rfl (fun K hK => ?_) (AllReadyH.nil)
          go_simp
          refine (h4 _).mono ?_; rintro e w_81 ⟨rfl, hb_81⟩
          try go_wp2_with fail
          refine hK.out _ _ (bk_on hHeld hHeld.2.2.2.2.size hb_81) (fun hHeld2 => ?_)
          clear hK K hHeld; have hHeld := hHeld2; clear hHeld2
          try simp only [Act.put, List.setIfInBounds_toArray, List.set_cons_zero, List.set_cons_succ]
          refine wpAnyH_take (i := 17) (oi := { dst := some 20, op := Op.binOp BinOp.add 9 (Operand.tmp 16) (Operand.tmp 19) 9, type := 9, pos := "ref.go:35", after := #[{ on := 13, ground := Ground.data }, { on := 16, ground := Ground.data }], guard := none }) (v := ?_) rfl (by kernel_rfl) (by kernel_rfl) (by kernel_rfl) (fun _ _ _ h => h) (Or.inl ⟨by rfl, ?_⟩) hHeld ?_
          rotate_left
          · intro w hSw
            try dsimp only at hSw
            go_simp
            try with_reducible rfl
          try simp only [Act.put, List.setIfInBounds_toArray, List.set_cons_zero, List.set_cons_succ]
          refine wpAnyH_ready (rs := [20]) (by kernel_rfl) (by simp) ?_
          refine AllReadyH.cons (o := { dst := some 23, op := Op.call { callee := Callee.value (Operand.func 71), args := #[Operand.tmp 22], argTypes := #[41] }, type := 9, pos := "ref.go:35", after := #[{ on := 19, ground := Ground.data }, { on := 16, ground := Ground.chain }], guard := none }) rfl (fun K hK => ?_) (AllReadyH.nil)
          go_simp
          refine (h5 _).mono ?_; rintro e w_82 ⟨rfl, hb_82⟩
          try go_wp2_with fail
          refine hK.out _ _ (bk_on hHeld hHeld.2.2.2.2.size hb_82) (fun hHeld2 => ?_)
          clear hK K hHeld; have hHeld := hHeld2; clear hHeld2
          try simp only [Act.put, List.setIfInBounds_toArray, List.set_cons_zero, List.set_cons_succ]
          refine wpAnyH_take (i := 21) (oi := { dst := some 24, op := Op.binOp BinOp.add 9 (Operand.tmp 20) (Operand.tmp 23) 9, type := 9, pos := "ref.go:35", after := #[{ on := 17, ground := Ground.data }, { on := 20, ground := Ground.data }], guard := none }) (v := ?_) rfl (by kernel_rfl) (by kernel_rfl) (by kernel_rfl) (fun _ _ _ h => h) (Or.inl ⟨by rfl, ?_⟩) hHeld ?_
          rotate_left
          · intro w hSw
            try dsimp only at hSw
            go_simp
            try with_reducible rfl
          try simp only [Act.put, List.setIfInBounds_toArray, List.set_cons_zero, List.set_cons_succ]
          refine wpAnyH_take (i := 22) (oi := { dst := some 2, op := Op.assign (Operand.tmp 24), type := 9, pos := "ref.go:35", after := #[{ on := 21, ground := Ground.data }, { on := 20, ground := Ground.chain }, { on := 0, ground := Ground.phase }, { on := 1, ground := Ground.phase }, { on := 2, ground := Ground.phase }, { on := 3, ground := Ground.phase }, { on := 4, ground := Ground.phase }, { on := 5, ground := Ground.phase }, { on := 6, ground := Ground.phase }, { on := 7, ground := Ground.phase }, { on := 8, ground := Ground.phase }, { on := 9, ground := Ground.phase }, { on := 10, ground := Ground.phase }, { on := 11, ground := Ground.phase }, { on := 12, ground := Ground.phase }, { on := 13, ground := Ground.phase }, { on := 14, ground := Ground.phase }, { on := 15, ground := Ground.phase }, { on := 16, ground := Ground.phase }, { on := 17, ground := Ground.phase }, { on := 18, ground := Ground.phase }, { on := 19, ground := Ground.phase }, { on := 20, ground := Ground.phase }, { on := 21, ground := Ground.phase }], guard := none }) (v := ?_) rfl (by kernel_rfl) (by kernel_rfl) (by kernel_rfl) (fun _ _ _ h => h) (Or.inl ⟨by rfl, ?_⟩) hHeld ?_
          rotate_left
          · intro w hSw
            try dsimp only at hSw
            go_simp
            try with_reducible rfl
          try simp only [Act.put, List.setIfInBounds_toArray, List.set_cons_zero, List.set_cons_succ]
          refine wpAnyH_done (by kernel_rfl) ?_ _
          obtain ⟨-, -, -, -, hfin⟩ := hHeld
          go_wp2_with fail
          go_ret
          exact ⟨by rw [hres.out]; rfl, hfin⟩
      · skip
        refine wp_ld 41 (.tmp 21) rfl _ (sA q) rfl (ld_seg (k := 11) hHeld.1 Tryd.underlying41 rfl (by kernel_rfl) (by kernel_rfl)) ?_
        refine hK.out _ _ (hHeld) (fun hHeld2 => ?_)
        clear hK K hHeld; have hHeld := hHeld2; clear hHeld2
        try simp only [Act.put, List.setIfInBounds_toArray, List.set_cons_zero, List.set_cons_succ]
        refine wpAnyH_ready (rs := [7]) (by kernel_rfl) (by simp) ?_
        refine AllReadyH.cons (o := { dst := some 10, op := Op.call { callee := Callee.value (Operand.func 70), args := #[Operand.const (Value.int IntKind.i64 4), Operand.tmp 9], argTypes := #[3, 88] }, type := 9, pos := "ref.go:35", after := #[{ on := 6, ground := Ground.data }, { on := 3, ground := Ground.chain }], guard := none }) rfl (fun K hK => ?_) (AllReadyH.nil)
        go_simp
        refine (h2 _).mono ?_; rintro e w_84 ⟨rfl, hb_84⟩
        try go_wp2_with fail
        refine hK.out _ _ (bk_on hHeld hHeld.2.2.2.2.size hb_84) (fun hHeld2 => ?_)
        clear hK K hHeld; have hHeld := hHeld2; clear hHeld2
        try simp only [Act.put, List.setIfInBounds_toArray, List.set_cons_zero, List.set_cons_succ]
        refine wpAnyH_take (i := 8) (oi := { dst := some 11, op := Op.binOp BinOp.add 9 (Operand.tmp 6) (Operand.tmp 10) 9, type := 9, pos := "ref.go:35", after := #[{ on := 3, ground := Ground.data }, { on := 7, ground := Ground.data }], guard := none }) (v := ?_) rfl (by kernel_rfl) (by kernel_rfl) (by kernel_rfl) (fun _ _ _ h => h) (Or.inl ⟨by rfl, ?_⟩) hHeld ?_
        rotate_left
        · intro w hSw
          try dsimp only at hSw
          go_simp
          try with_reducible rfl
        try simp only [Act.put, List.setIfInBounds_toArray, List.set_cons_zero, List.set_cons_succ]
        refine wpAnyH_ready (rs := [12]) (by kernel_rfl) (by simp) ?_
        refine AllReadyH.cons (o := { dst := some 15, op := Op.call { callee := Callee.value (Operand.func 70), args := #[Operand.const (Value.int IntKind.i64 4), Operand.tmp 14], argTypes := #[3, 88] }, type := 9, pos := "ref.go:35", after := #[{ on := 11, ground := Ground.data }, { on := 7, ground := Ground.chain }], guard := none }) rfl (fun K hK => ?_) (AllReadyH.nil)
        go_simp
        refine (h3 _).mono ?_; rintro e w_85 ⟨rfl, hb_85⟩
        try go_wp2_with fail
        refine hK.out _ _ (bk_on hHeld hHeld.2.2.2.2.size hb_85) (fun hHeld2 => ?_)
        clear hK K hHeld; have hHeld := hHeld2; clear hHeld2
        try simp only [Act.put, List.setIfInBounds_toArray, List.set_cons_zero, List.set_cons_succ]
        refine wpAnyH_take (i := 13) (oi := { dst := some 16, op := Op.binOp BinOp.add 9 (Operand.tmp 11) (Operand.tmp 15) 9, type := 9, pos := "ref.go:35", after := #[{ on := 8, ground := Ground.data }, { on := 12, ground := Ground.data }], guard := none }) (v := ?_) rfl (by kernel_rfl) (by kernel_rfl) (by kernel_rfl) (fun _ _ _ h => h) (Or.inl ⟨by rfl, ?_⟩) hHeld ?_
        rotate_left
        · intro w hSw
          try dsimp only at hSw
          go_simp
          try with_reducible rfl
        try simp only [Act.put, List.setIfInBounds_toArray, List.set_cons_zero, List.set_cons_succ]
        refine wpAnyH_ready (rs := [16]) (by kernel_rfl) (by simp) ?_
        refine AllReadyH.cons (o := { dst := some 19, op := Op.call { callee := Callee.value (Operand.func 71), args := #[Operand.tmp 18], argTypes := #[41] }, type := 9, pos := "ref.go:35", after := #[{ on := 15, ground := Ground.data }, { on := 12, ground := Ground.chain }], guard := none }) rfl (fun K hK => ?_) (AllReadyH.nil)
        go_simp
        refine (h4 _).mono ?_; rintro e w_86 ⟨rfl, hb_86⟩
        try go_wp2_with fail
        refine hK.out _ _ (bk_on hHeld hHeld.2.2.2.2.size hb_86) (fun hHeld2 => ?_)
        clear hK K hHeld; have hHeld := hHeld2; clear hHeld2
        try simp only [Act.put, List.setIfInBounds_toArray, List.set_cons_zero, List.set_cons_succ]
        refine wpAnyH_take (i := 17) (oi := { dst := some 20, op := Op.binOp BinOp.add 9 (Operand.tmp 16) (Operand.tmp 19) 9, type := 9, pos := "ref.go:35", after := #[{ on := 13, ground := Ground.data }, { on := 16, ground := Ground.data }], guard := none }) (v := ?_) rfl (by kernel_rfl) (by kernel_rfl) (by kernel_rfl) (fun _ _ _ h => h) (Or.inl ⟨by rfl, ?_⟩) hHeld ?_
        rotate_left
        · intro w hSw
          try dsimp only at hSw
          go_simp
          try with_reducible rfl
        try simp only [Act.put, List.setIfInBounds_toArray, List.set_cons_zero, List.set_cons_succ]
        refine wpAnyH_ready (rs := [20]) (by kernel_rfl) (by simp) ?_
        refine AllReadyH.cons (o := { dst := some 23, op := Op.call { callee := Callee.value (Operand.func 71), args := #[Operand.tmp 22], argTypes := #[41] }, type := 9, pos := "ref.go:35", after := #[{ on := 19, ground := Ground.data }, { on := 16, ground := Ground.chain }], guard := none }) rfl (fun K hK => ?_) (AllReadyH.nil)
        go_simp
        refine (h5 _).mono ?_; rintro e w_87 ⟨rfl, hb_87⟩
        try go_wp2_with fail
        refine hK.out _ _ (bk_on hHeld hHeld.2.2.2.2.size hb_87) (fun hHeld2 => ?_)
        clear hK K hHeld; have hHeld := hHeld2; clear hHeld2
        try simp only [Act.put, List.setIfInBounds_toArray, List.set_cons_zero, List.set_cons_succ]
        refine wpAnyH_take (i := 21) (oi := { dst := some 24, op := Op.binOp BinOp.add 9 (Operand.tmp 20) (Operand.tmp 23) 9, type := 9, pos := "ref.go:35", after := #[{ on := 17, ground := Ground.data }, { on := 20, ground := Ground.data }], guard := none }) (v := ?_) rfl (by kernel_rfl) (by kernel_rfl) (by kernel_rfl) (fun _ _ _ h => h) (Or.inl ⟨by rfl, ?_⟩) hHeld ?_
        rotate_left
        · intro w hSw
          try dsimp only at hSw
          go_simp
          try with_reducible rfl
        try simp only [Act.put, List.setIfInBounds_toArray, List.set_cons_zero, List.set_cons_succ]
        refine wpAnyH_take (i := 22) (oi := { dst := some 2, op := Op.assign (Operand.tmp 24), type := 9, pos := "ref.go:35", after := #[{ on := 21, ground := Ground.data }, { on := 20, ground := Ground.chain }, { on := 0, ground := Ground.phase }, { on := 1, ground := Ground.phase }, { on := 2, ground := Ground.phase }, { on := 3, ground := Ground.phase }, { on := 4, ground := Ground.phase }, { on := 5, ground := Ground.phase }, { on := 6, ground := Ground.phase }, { on := 7, ground := Ground.phase }, { on := 8, ground := Ground.phase }, { on := 9, ground := Ground.phase }, { on := 10, ground := Ground.phase }, { on := 11, ground := Ground.phase }, { on := 12, ground := Ground.phase }, { on := 13, ground := Ground.phase }, { on := 14, ground := Ground.phase }, { on := 15, ground := Ground.phase }, { on := 16, ground := Ground.phase }, { on := 17, ground := Ground.phase }, { on := 18, ground := Ground.phase }, { on := 19, ground := Ground.phase }, { on := 20, ground := Ground.phase }, { on := 21, ground := Ground.phase }], guard := none }) (v := ?_) rfl (by kernel_rfl) (by kernel_rfl) (by kernel_rfl) (fun _ _ _ h => h) (Or.inl ⟨by rfl, ?_⟩) hHeld ?_
        rotate_left
        · intro w hSw
          try dsimp only at hSw
          go_simp
          try with_reducible rfl
        try simp only [Act.put, List.setIfInBounds_toArray, List.set_cons_zero, List.set_cons_succ]
        refine wpAnyH_done (by kernel_rfl) ?_ _
        obtain ⟨-, -, -, -, hfin⟩ := hHeld
        go_wp2_with fail
        go_ret
        exact ⟨by rw [hres.out]; rfl, hfin⟩
    · skip
      refine wp_ld 41 (.tmp 21) rfl _ (sA q) rfl (ld_seg (k := 11) hHeld.1 Tryd.underlying41 rfl (by kernel_rfl) (by kernel_rfl)) ?_
      refine hK.out _ _ (hHeld) (fun hHeld2 => ?_)
      clear hK K hHeld; have hHeld := hHeld2; clear hHeld2
      try simp only [Act.put, List.setIfInBounds_toArray, List.set_cons_zero, List.set_cons_succ]
      refine wpAnyH_ready (rs := [3]) (by kernel_rfl) (by simp) ?_
      refine AllReadyH.cons (o := { dst := some 6, op := Op.call { callee := Callee.value (Operand.func 70), args := #[Operand.const (Value.int IntKind.i64 4), Operand.tmp 5], argTypes := #[3, 88] }, type := 9, pos := "ref.go:35", after := #[{ on := 2, ground := Ground.data }], guard := none }) rfl (fun K hK => ?_) (AllReadyH.nil)
      go_simp
      refine (h1 _).mono ?_; rintro e w_89 ⟨rfl, hb_89⟩
      try go_wp2_with fail
      refine hK.out _ _ (bk_on hHeld hHeld.2.2.2.2.size hb_89) (fun hHeld2 => ?_)
      clear hK K hHeld; have hHeld := hHeld2; clear hHeld2
      try simp only [Act.put, List.setIfInBounds_toArray, List.set_cons_zero, List.set_cons_succ]
      refine wpAnyH_ready (rs := [7]) (by kernel_rfl) (by simp) ?_
      refine AllReadyH.cons (o := { dst := some 10, op := Op.call { callee := Callee.value (Operand.func 70), args := #[Operand.const (Value.int IntKind.i64 4), Operand.tmp 9], argTypes := #[3, 88] }, type := 9, pos := "ref.go:35", after := #[{ on := 6, ground := Ground.data }, { on := 3, ground := Ground.chain }], guard := none }) rfl (fun K hK => ?_) (AllReadyH.nil)
      go_simp
      refine (h2 _).mono ?_; rintro e w_90 ⟨rfl, hb_90⟩
      try go_wp2_with fail
      refine hK.out _ _ (bk_on hHeld hHeld.2.2.2.2.size hb_90) (fun hHeld2 => ?_)
      clear hK K hHeld; have hHeld := hHeld2; clear hHeld2
      try simp only [Act.put, List.setIfInBounds_toArray, List.set_cons_zero, List.set_cons_succ]
      refine wpAnyH_take (i := 8) (oi := { dst := some 11, op := Op.binOp BinOp.add 9 (Operand.tmp 6) (Operand.tmp 10) 9, type := 9, pos := "ref.go:35", after := #[{ on := 3, ground := Ground.data }, { on := 7, ground := Ground.data }], guard := none }) (v := ?_) rfl (by kernel_rfl) (by kernel_rfl) (by kernel_rfl) (fun _ _ _ h => h) (Or.inl ⟨by rfl, ?_⟩) hHeld ?_
      rotate_left
      · intro w hSw
        try dsimp only at hSw
        go_simp
        try with_reducible rfl
      try simp only [Act.put, List.setIfInBounds_toArray, List.set_cons_zero, List.set_cons_succ]
      refine wpAnyH_ready (rs := [12]) (by kernel_rfl) (by simp) ?_
      refine AllReadyH.cons (o := { dst := some 15, op := Op.call { callee := Callee.value (Operand.func 70), args := #[Operand.const (Value.int IntKind.i64 4), Operand.tmp 14], argTypes := #[3, 88] }, type := 9, pos := "ref.go:35", after := #[{ on := 11, ground := Ground.data }, { on := 7, ground := Ground.chain }], guard := none }) rfl (fun K hK => ?_) (AllReadyH.nil)
      go_simp
      refine (h3 _).mono ?_; rintro e w_91 ⟨rfl, hb_91⟩
      try go_wp2_with fail
      refine hK.out _ _ (bk_on hHeld hHeld.2.2.2.2.size hb_91) (fun hHeld2 => ?_)
      clear hK K hHeld; have hHeld := hHeld2; clear hHeld2
      try simp only [Act.put, List.setIfInBounds_toArray, List.set_cons_zero, List.set_cons_succ]
      refine wpAnyH_take (i := 13) (oi := { dst := some 16, op := Op.binOp BinOp.add 9 (Operand.tmp 11) (Operand.tmp 15) 9, type := 9, pos := "ref.go:35", after := #[{ on := 8, ground := Ground.data }, { on := 12, ground := Ground.data }], guard := none }) (v := ?_) rfl (by kernel_rfl) (by kernel_rfl) (by kernel_rfl) (fun _ _ _ h => h) (Or.inl ⟨by rfl, ?_⟩) hHeld ?_
      rotate_left
      · intro w hSw
        try dsimp only at hSw
        go_simp
        try with_reducible rfl
      try simp only [Act.put, List.setIfInBounds_toArray, List.set_cons_zero, List.set_cons_succ]
      refine wpAnyH_ready (rs := [16]) (by kernel_rfl) (by simp) ?_
      refine AllReadyH.cons (o := { dst := some 19, op := Op.call { callee := Callee.value (Operand.func 71), args := #[Operand.tmp 18], argTypes := #[41] }, type := 9, pos := "ref.go:35", after := #[{ on := 15, ground := Ground.data }, { on := 12, ground := Ground.chain }], guard := none }) rfl (fun K hK => ?_) (AllReadyH.nil)
      go_simp
      refine (h4 _).mono ?_; rintro e w_92 ⟨rfl, hb_92⟩
      try go_wp2_with fail
      refine hK.out _ _ (bk_on hHeld hHeld.2.2.2.2.size hb_92) (fun hHeld2 => ?_)
      clear hK K hHeld; have hHeld := hHeld2; clear hHeld2
      try simp only [Act.put, List.setIfInBounds_toArray, List.set_cons_zero, List.set_cons_succ]
      refine wpAnyH_take (i := 17) (oi := { dst := some 20, op := Op.binOp BinOp.add 9 (Operand.tmp 16) (Operand.tmp 19) 9, type := 9, pos := "ref.go:35", after := #[{ on := 13, ground := Ground.data }, { on := 16, ground := Ground.data }], guard := none }) (v := ?_) rfl (by kernel_rfl) (by kernel_rfl) (by kernel_rfl) (fun _ _ _ h => h) (Or.inl ⟨by rfl, ?_⟩) hHeld ?_
      rotate_left
      · intro w hSw
        try dsimp only at hSw
        go_simp
        try with_reducible rfl
      try simp only [Act.put, List.setIfInBounds_toArray, List.set_cons_zero, List.set_cons_succ]
      refine wpAnyH_ready (rs := [20]) (by kernel_rfl) (by simp) ?_
      refine AllReadyH.cons (o := { dst := some 23, op := Op.call { callee := Callee.value (Operand.func 71), args := #[Operand.tmp 22], argTypes := #[41] }, type := 9, pos := "ref.go:35", after := #[{ on := 19, ground := Ground.data }, { on := 16, ground := Ground.chain }], guard := none }) rfl (fun K hK => ?_) (AllReadyH.nil)
      go_simp
      refine (h5 _).mono ?_; rintro e w_93 ⟨rfl, hb_93⟩
      try go_wp2_with fail
      refine hK.out _ _ (bk_on hHeld hHeld.2.2.2.2.size hb_93) (fun hHeld2 => ?_)
      clear hK K hHeld; have hHeld := hHeld2; clear hHeld2
      try simp only [Act.put, List.setIfInBounds_toArray, List.set_cons_zero, List.set_cons_succ]
      refine wpAnyH_take (i := 21) (oi := { dst := some 24, op := Op.binOp BinOp.add 9 (Operand.tmp 20) (Operand.tmp 23) 9, type := 9, pos := "ref.go:35", after := #[{ on := 17, ground := Ground.data }, { on := 20, ground := Ground.data }], guard := none }) (v := ?_) rfl (by kernel_rfl) (by kernel_rfl) (by kernel_rfl) (fun _ _ _ h => h) (Or.inl ⟨by rfl, ?_⟩) hHeld ?_
      rotate_left
      · intro w hSw
        try dsimp only at hSw
        go_simp
        try with_reducible rfl
      try simp only [Act.put, List.setIfInBounds_toArray, List.set_cons_zero, List.set_cons_succ]
      refine wpAnyH_take (i := 22) (oi := { dst := some 2, op := Op.assign (Operand.tmp 24), type := 9, pos := "ref.go:35", after := #[{ on := 21, ground := Ground.data }, { on := 20, ground := Ground.chain }, { on := 0, ground := Ground.phase }, { on := 1, ground := Ground.phase }, { on := 2, ground := Ground.phase }, { on := 3, ground := Ground.phase }, { on := 4, ground := Ground.phase }, { on := 5, ground := Ground.phase }, { on := 6, ground := Ground.phase }, { on := 7, ground := Ground.phase }, { on := 8, ground := Ground.phase }, { on := 9, ground := Ground.phase }, { on := 10, ground := Ground.phase }, { on := 11, ground := Ground.phase }, { on := 12, ground := Ground.phase }, { on := 13, ground := Ground.phase }, { on := 14, ground := Ground.phase }, { on := 15, ground := Ground.phase }, { on := 16, ground := Ground.phase }, { on := 17, ground := Ground.phase }, { on := 18, ground := Ground.phase }, { on := 19, ground := Ground.phase }, { on := 20, ground := Ground.phase }, { on := 21, ground := Ground.phase }], guard := none }) (v := ?_) rfl (by kernel_rfl) (by kernel_rfl) (by kernel_rfl) (fun _ _ _ h => h) (Or.inl ⟨by rfl, ?_⟩) hHeld ?_
      rotate_left
      · intro w hSw
        try dsimp only at hSw
        go_simp
        try with_reducible rfl
      try simp only [Act.put, List.setIfInBounds_toArray, List.set_cons_zero, List.set_cons_succ]
      refine wpAnyH_done (by kernel_rfl) ?_ _
      obtain ⟨-, -, -, -, hfin⟩ := hHeld
      go_wp2_with fail
      go_ret
      exact ⟨by rw [hres.out]; rfl, hfin⟩
  · skip
    refine wp_ld 41 (.tmp 21) rfl _ (sA q) rfl (ld_seg (k := 11) hHeld.1 Tryd.underlying41 rfl (by kernel_rfl) (by kernel_rfl)) ?_
    refine hK.out _ _ (hHeld) (fun hHeld2 => ?_)
    clear hK K hHeld; have hHeld := hHeld2; clear hHeld2
    try simp only [Act.put, List.setIfInBounds_toArray, List.set_cons_zero, List.set_cons_succ]
    refine wpAnyH_ready (rs := [3, 15]) (by kernel_rfl) (by simp) ?_
    refine AllReadyH.cons (o := { dst := some 6, op := Op.call { callee := Callee.value (Operand.func 70), args := #[Operand.const (Value.int IntKind.i64 4), Operand.tmp 5], argTypes := #[3, 88] }, type := 9, pos := "ref.go:35", after := #[{ on := 2, ground := Ground.data }], guard := none }) rfl (fun K hK => ?_) (AllReadyH.cons (o := { dst := some 18, op := Op.load 41 (Operand.tmp 17), type := 41, pos := "ref.go:35", after := #[{ on := 14, ground := Ground.data }], guard := none }) rfl (fun K hK => ?_) (AllReadyH.nil))
    · skip
      go_simp
      refine (h1 _).mono ?_; rintro e w_95 ⟨rfl, hb_95⟩
      try go_wp2_with fail
      refine hK.out _ _ (bk_on hHeld hHeld.2.2.2.2.size hb_95) (fun hHeld2 => ?_)
      clear hK K hHeld; have hHeld := hHeld2; clear hHeld2
      try simp only [Act.put, List.setIfInBounds_toArray, List.set_cons_zero, List.set_cons_succ]
      refine wpAnyH_ready (rs := [7, 15]) (by kernel_rfl) (by simp) ?_
      refine AllReadyH.cons (o := { dst := some 10, op := Op.call { callee := Callee.value (Operand.func 70), args := #[Operand.const (Value.int IntKind.i64 4), Operand.tmp 9], argTypes := #[3, 88] }, type := 9, pos := "ref.go:35", after := #[{ on := 6, ground := Ground.data }, { on := 3, ground := Ground.chain }], guard := none }) rfl (fun K hK => ?_) (AllReadyH.cons (o := { dst := some 18, op := Op.load 41 (Operand.tmp 17), type := 41, pos := "ref.go:35", after := #[{ on := 14, ground := Ground.data }], guard := none }) rfl (fun K hK => ?_) (AllReadyH.nil))
      · skip
        go_simp
        refine (h2 _).mono ?_; rintro e w_96 ⟨rfl, hb_96⟩
        try go_wp2_with fail
        refine hK.out _ _ (bk_on hHeld hHeld.2.2.2.2.size hb_96) (fun hHeld2 => ?_)
        clear hK K hHeld; have hHeld := hHeld2; clear hHeld2
        try simp only [Act.put, List.setIfInBounds_toArray, List.set_cons_zero, List.set_cons_succ]
        refine wpAnyH_take (i := 8) (oi := { dst := some 11, op := Op.binOp BinOp.add 9 (Operand.tmp 6) (Operand.tmp 10) 9, type := 9, pos := "ref.go:35", after := #[{ on := 3, ground := Ground.data }, { on := 7, ground := Ground.data }], guard := none }) (v := ?_) rfl (by kernel_rfl) (by kernel_rfl) (by kernel_rfl) (fun _ _ _ h => h) (Or.inl ⟨by rfl, ?_⟩) hHeld ?_
        rotate_left
        · intro w hSw
          try dsimp only at hSw
          go_simp
          try with_reducible rfl
        try simp only [Act.put, List.setIfInBounds_toArray, List.set_cons_zero, List.set_cons_succ]
        refine wpAnyH_ready (rs := [12, 15]) (by kernel_rfl) (by simp) ?_
        refine AllReadyH.cons (o := { dst := some 15, op := Op.call { callee := Callee.value (Operand.func 70), args := #[Operand.const (Value.int IntKind.i64 4), Operand.tmp 14], argTypes := #[3, 88] }, type := 9, pos := "ref.go:35", after := #[{ on := 11, ground := Ground.data }, { on := 7, ground := Ground.chain }], guard := none }) rfl (fun K hK => ?_) (AllReadyH.cons (o := { dst := some 18, op := Op.load 41 (Operand.tmp 17), type := 41, pos := "ref.go:35", after := #[{ on := 14, ground := Ground.data }], guard := none }) rfl (fun K hK => ?_) (AllReadyH.nil))
        · skip
          go_simp
          refine (h3 _).mono ?_; rintro e w_97 ⟨rfl, hb_97⟩
          try go_wp2_with fail
          refine hK.out _ _ (bk_on hHeld hHeld.2.2.2.2.size hb_97) (fun hHeld2 => ?_)
          clear hK K hHeld; have hHeld := hHeld2; clear hHeld2
          try simp only [Act.put, List.setIfInBounds_toArray, List.set_cons_zero, List.set_cons_succ]
          refine wpAnyH_take (i := 13) (oi := { dst := some 16, op := Op.binOp BinOp.add 9 (Operand.tmp 11) (Operand.tmp 15) 9, type := 9, pos := "ref.go:35", after := #[{ on := 8, ground := Ground.data }, { on := 12, ground := Ground.data }], guard := none }) (v := ?_) rfl (by kernel_rfl) (by kernel_rfl) (by kernel_rfl) (fun _ _ _ h => h) (Or.inl ⟨by rfl, ?_⟩) hHeld ?_
          rotate_left
          · intro w hSw
            try dsimp only at hSw
            go_simp
            try with_reducible rfl
          try simp only [Act.put, List.setIfInBounds_toArray, List.set_cons_zero, List.set_cons_succ]
          refine wpAnyH_ready (rs := [15]) (by kernel_rfl) (by simp) ?_
          refine AllReadyH.cons (o := { dst := some 18, op := Op.load 41 (Operand.tmp 17), type := 41, pos := "ref.go:35", after := #[{ on := 14, ground := Ground.data }], guard := none }) rfl (fun K hK => ?_) (AllReadyH.nil)
          refine wp_ld 41 (.tmp 17) rfl _ (sA p) rfl (ld_seg (k := 3) hHeld.1 Tryd.underlying41 rfl (by kernel_rfl) (by kernel_rfl)) ?_
          refine hK.out _ _ (hHeld) (fun hHeld2 => ?_)
          clear hK K hHeld; have hHeld := hHeld2; clear hHeld2
          try simp only [Act.put, List.setIfInBounds_toArray, List.set_cons_zero, List.set_cons_succ]
          refine wpAnyH_ready (rs := [16]) (by kernel_rfl) (by simp) ?_
          refine AllReadyH.cons (o := { dst := some 19, op := Op.call { callee := Callee.value (Operand.func 71), args := #[Operand.tmp 18], argTypes := #[41] }, type := 9, pos := "ref.go:35", after := #[{ on := 15, ground := Ground.data }, { on := 12, ground := Ground.chain }], guard := none }) rfl (fun K hK => ?_) (AllReadyH.nil)
          go_simp
          refine (h4 _).mono ?_; rintro e w_99 ⟨rfl, hb_99⟩
          try go_wp2_with fail
          refine hK.out _ _ (bk_on hHeld hHeld.2.2.2.2.size hb_99) (fun hHeld2 => ?_)
          clear hK K hHeld; have hHeld := hHeld2; clear hHeld2
          try simp only [Act.put, List.setIfInBounds_toArray, List.set_cons_zero, List.set_cons_succ]
          refine wpAnyH_take (i := 17) (oi := { dst := some 20, op := Op.binOp BinOp.add 9 (Operand.tmp 16) (Operand.tmp 19) 9, type := 9, pos := "ref.go:35", after := #[{ on := 13, ground := Ground.data }, { on := 16, ground := Ground.data }], guard := none }) (v := ?_) rfl (by kernel_rfl) (by kernel_rfl) (by kernel_rfl) (fun _ _ _ h => h) (Or.inl ⟨by rfl, ?_⟩) hHeld ?_
          rotate_left
          · intro w hSw
            try dsimp only at hSw
            go_simp
            try with_reducible rfl
          try simp only [Act.put, List.setIfInBounds_toArray, List.set_cons_zero, List.set_cons_succ]
          refine wpAnyH_ready (rs := [20]) (by kernel_rfl) (by simp) ?_
          refine AllReadyH.cons (o := { dst := some 23, op := Op.call { callee := Callee.value (Operand.func 71), args := #[Operand.tmp 22], argTypes := #[41] }, type := 9, pos := "ref.go:35", after := #[{ on := 19, ground := Ground.data }, { on := 16, ground := Ground.chain }], guard := none }) rfl (fun K hK => ?_) (AllReadyH.nil)
          go_simp
          refine (h5 _).mono ?_; rintro e w_100 ⟨rfl, hb_100⟩
          try go_wp2_with fail
          refine hK.out _ _ (bk_on hHeld hHeld.2.2.2.2.size hb_100) (fun hHeld2 => ?_)
          clear hK K hHeld; have hHeld := hHeld2; clear hHeld2
          try simp only [Act.put, List.setIfInBounds_toArray, List.set_cons_zero, List.set_cons_succ]
          refine wpAnyH_take (i := 21) (oi := { dst := some 24, op := Op.binOp BinOp.add 9 (Operand.tmp 20) (Operand.tmp 23) 9, type := 9, pos := "ref.go:35", after := #[{ on := 17, ground := Ground.data }, { on := 20, ground := Ground.data }], guard := none }) (v := ?_) rfl (by kernel_rfl) (by kernel_rfl) (by kernel_rfl) (fun _ _ _ h => h) (Or.inl ⟨by rfl, ?_⟩) hHeld ?_
          rotate_left
          · intro w hSw
            try dsimp only at hSw
            go_simp
            try with_reducible rfl
          try simp only [Act.put, List.setIfInBounds_toArray, List.set_cons_zero, List.set_cons_succ]
          refine wpAnyH_take (i := 22) (oi := { dst := some 2, op := Op.assign (Operand.tmp 24), type := 9, pos := "ref.go:35", after := #[{ on := 21, ground := Ground.data }, { on := 20, ground := Ground.chain }, { on := 0, ground := Ground.phase }, { on := 1, ground := Ground.phase }, { on := 2, ground := Ground.phase }, { on := 3, ground := Ground.phase }, { on := 4, ground := Ground.phase }, { on := 5, ground := Ground.phase }, { on := 6, ground := Ground.phase }, { on := 7, ground := Ground.phase }, { on := 8, ground := Ground.phase }, { on := 9, ground := Ground.phase }, { on := 10, ground := Ground.phase }, { on := 11, ground := Ground.phase }, { on := 12, ground := Ground.phase }, { on := 13, ground := Ground.phase }, { on := 14, ground := Ground.phase }, { on := 15, ground := Ground.phase }, { on := 16, ground := Ground.phase }, { on := 17, ground := Ground.phase }, { on := 18, ground := Ground.phase }, { on := 19, ground := Ground.phase }, { on := 20, ground := Ground.phase }, { on := 21, ground := Ground.phase }], guard := none }) (v := ?_) rfl (by kernel_rfl) (by kernel_rfl) (by kernel_rfl) (fun _ _ _ h => h) (Or.inl ⟨by rfl, ?_⟩) hHeld ?_
          rotate_left
          · intro w hSw
            try dsimp only at hSw
            go_simp
            try with_reducible rfl
          try simp only [Act.put, List.setIfInBounds_toArray, List.set_cons_zero, List.set_cons_succ]
          refine wpAnyH_done (by kernel_rfl) ?_ _
          obtain ⟨-, -, -, -, hfin⟩ := hHeld
          go_wp2_with fail
          go_ret
          exact ⟨by rw [hres.out]; rfl, hfin⟩
        · skip
          refine wp_ld 41 (.tmp 17) rfl _ (sA p) rfl (ld_seg (k := 3) hHeld.1 Tryd.underlying41 rfl (by kernel_rfl) (by kernel_rfl)) ?_
          refine hK.out _ _ (hHeld) (fun hHeld2 => ?_)
          clear hK K hHeld; have hHeld := hHeld2; clear hHeld2
          try simp only [Act.put, List.setIfInBounds_toArray, List.set_cons_zero, List.set_cons_succ]
          refine wpAnyH_ready (rs := [12]) (by kernel_rfl) (by simp) ?_
          refine AllReadyH.cons (o := { dst := some 15, op := Op.call { callee := Callee.value (Operand.func 70), args := #[Operand.const (Value.int IntKind.i64 4), Operand.tmp 14], argTypes := #[3, 88] }, type := 9, pos := "ref.go:35", after := #[{ on := 11, ground := Ground.data }, { on := 7, ground := Ground.chain }], guard := none }) rfl (fun K hK => ?_) (AllReadyH.nil)
          go_simp
          refine (h3 _).mono ?_; rintro e w_102 ⟨rfl, hb_102⟩
          try go_wp2_with fail
          refine hK.out _ _ (bk_on hHeld hHeld.2.2.2.2.size hb_102) (fun hHeld2 => ?_)
          clear hK K hHeld; have hHeld := hHeld2; clear hHeld2
          try simp only [Act.put, List.setIfInBounds_toArray, List.set_cons_zero, List.set_cons_succ]
          refine wpAnyH_take (i := 13) (oi := { dst := some 16, op := Op.binOp BinOp.add 9 (Operand.tmp 11) (Operand.tmp 15) 9, type := 9, pos := "ref.go:35", after := #[{ on := 8, ground := Ground.data }, { on := 12, ground := Ground.data }], guard := none }) (v := ?_) rfl (by kernel_rfl) (by kernel_rfl) (by kernel_rfl) (fun _ _ _ h => h) (Or.inl ⟨by rfl, ?_⟩) hHeld ?_
          rotate_left
          · intro w hSw
            try dsimp only at hSw
            go_simp
            try with_reducible rfl
          try simp only [Act.put, List.setIfInBounds_toArray, List.set_cons_zero, List.set_cons_succ]
          refine wpAnyH_ready (rs := [16]) (by kernel_rfl) (by simp) ?_
          refine AllReadyH.cons (o := { dst := some 19, op := Op.call { callee := Callee.value (Operand.func 71), args := #[Operand.tmp 18], argTypes := #[41] }, type := 9, pos := "ref.go:35", after := #[{ on := 15, ground := Ground.data }, { on := 12, ground := Ground.chain }], guard := none }) rfl (fun K hK => ?_) (AllReadyH.nil)
          go_simp
          refine (h4 _).mono ?_; rintro e w_103 ⟨rfl, hb_103⟩
          try go_wp2_with fail
          refine hK.out _ _ (bk_on hHeld hHeld.2.2.2.2.size hb_103) (fun hHeld2 => ?_)
          clear hK K hHeld; have hHeld := hHeld2; clear hHeld2
          try simp only [Act.put, List.setIfInBounds_toArray, List.set_cons_zero, List.set_cons_succ]
          refine wpAnyH_take (i := 17) (oi := { dst := some 20, op := Op.binOp BinOp.add 9 (Operand.tmp 16) (Operand.tmp 19) 9, type := 9, pos := "ref.go:35", after := #[{ on := 13, ground := Ground.data }, { on := 16, ground := Ground.data }], guard := none }) (v := ?_) rfl (by kernel_rfl) (by kernel_rfl) (by kernel_rfl) (fun _ _ _ h => h) (Or.inl ⟨by rfl, ?_⟩) hHeld ?_
          rotate_left
          · intro w hSw
            try dsimp only at hSw
            go_simp
            try with_reducible rfl
          try simp only [Act.put, List.setIfInBounds_toArray, List.set_cons_zero, List.set_cons_succ]
          refine wpAnyH_ready (rs := [20]) (by kernel_rfl) (by simp) ?_
          refine AllReadyH.cons (o := { dst := some 23, op := Op.call { callee := Callee.value (Operand.func 71), args := #[Operand.tmp 22], argTypes := #[41] }, type := 9, pos := "ref.go:35", after := #[{ on := 19, ground := Ground.data }, { on := 16, ground := Ground.chain }], guard := none }) rfl (fun K hK => ?_) (AllReadyH.nil)
          go_simp
          refine (h5 _).mono ?_; rintro e w_104 ⟨rfl, hb_104⟩
          try go_wp2_with fail
          refine hK.out _ _ (bk_on hHeld hHeld.2.2.2.2.size hb_104) (fun hHeld2 => ?_)
          clear hK K hHeld; have hHeld := hHeld2; clear hHeld2
          try simp only [Act.put, List.setIfInBounds_toArray, List.set_cons_zero, List.set_cons_succ]
          refine wpAnyH_take (i := 21) (oi := { dst := some 24, op := Op.binOp BinOp.add 9 (Operand.tmp 20) (Operand.tmp 23) 9, type := 9, pos := "ref.go:35", after := #[{ on := 17, ground := Ground.data }, { on := 20, ground := Ground.data }], guard := none }) (v := ?_) rfl (by kernel_rfl) (by kernel_rfl) (by kernel_rfl) (fun _ _ _ h => h) (Or.inl ⟨by rfl, ?_⟩) hHeld ?_
          rotate_left
          · intro w hSw
            try dsimp only at hSw
            go_simp
            try with_reducible rfl
          try simp only [Act.put, List.setIfInBounds_toArray, List.set_cons_zero, List.set_cons_succ]
          refine wpAnyH_take (i := 22) (oi := { dst := some 2, op := Op.assign (Operand.tmp 24), type := 9, pos := "ref.go:35", after := #[{ on := 21, ground := Ground.data }, { on := 20, ground := Ground.chain }, { on := 0, ground := Ground.phase }, { on := 1, ground := Ground.phase }, { on := 2, ground := Ground.phase }, { on := 3, ground := Ground.phase }, { on := 4, ground := Ground.phase }, { on := 5, ground := Ground.phase }, { on := 6, ground := Ground.phase }, { on := 7, ground := Ground.phase }, { on := 8, ground := Ground.phase }, { on := 9, ground := Ground.phase }, { on := 10, ground := Ground.phase }, { on := 11, ground := Ground.phase }, { on := 12, ground := Ground.phase }, { on := 13, ground := Ground.phase }, { on := 14, ground := Ground.phase }, { on := 15, ground := Ground.phase }, { on := 16, ground := Ground.phase }, { on := 17, ground := Ground.phase }, { on := 18, ground := Ground.phase }, { on := 19, ground := Ground.phase }, { on := 20, ground := Ground.phase }, { on := 21, ground := Ground.phase }], guard := none }) (v := ?_) rfl (by kernel_rfl) (by kernel_rfl) (by kernel_rfl) (fun _ _ _ h => h) (Or.inl ⟨by rfl, ?_⟩) hHeld ?_
          rotate_left
          · intro w hSw
            try dsimp only at hSw
            go_simp
            try with_reducible rfl
          try simp only [Act.put, List.setIfInBounds_toArray, List.set_cons_zero, List.set_cons_succ]
          refine wpAnyH_done (by kernel_rfl) ?_ _
          obtain ⟨-, -, -, -, hfin⟩ := hHeld
          go_wp2_with fail
          go_ret
          exact ⟨by rw [hres.out]; rfl, hfin⟩
      · skip
        refine wp_ld 41 (.tmp 17) rfl _ (sA p) rfl (ld_seg (k := 3) hHeld.1 Tryd.underlying41 rfl (by kernel_rfl) (by kernel_rfl)) ?_
        refine hK.out _ _ (hHeld) (fun hHeld2 => ?_)
        clear hK K hHeld; have hHeld := hHeld2; clear hHeld2
        try simp only [Act.put, List.setIfInBounds_toArray, List.set_cons_zero, List.set_cons_succ]
        refine wpAnyH_ready (rs := [7]) (by kernel_rfl) (by simp) ?_
        refine AllReadyH.cons (o := { dst := some 10, op := Op.call { callee := Callee.value (Operand.func 70), args := #[Operand.const (Value.int IntKind.i64 4), Operand.tmp 9], argTypes := #[3, 88] }, type := 9, pos := "ref.go:35", after := #[{ on := 6, ground := Ground.data }, { on := 3, ground := Ground.chain }], guard := none }) rfl (fun K hK => ?_) (AllReadyH.nil)
        go_simp
        refine (h2 _).mono ?_; rintro e w_106 ⟨rfl, hb_106⟩
        try go_wp2_with fail
        refine hK.out _ _ (bk_on hHeld hHeld.2.2.2.2.size hb_106) (fun hHeld2 => ?_)
        clear hK K hHeld; have hHeld := hHeld2; clear hHeld2
        try simp only [Act.put, List.setIfInBounds_toArray, List.set_cons_zero, List.set_cons_succ]
        refine wpAnyH_take (i := 8) (oi := { dst := some 11, op := Op.binOp BinOp.add 9 (Operand.tmp 6) (Operand.tmp 10) 9, type := 9, pos := "ref.go:35", after := #[{ on := 3, ground := Ground.data }, { on := 7, ground := Ground.data }], guard := none }) (v := ?_) rfl (by kernel_rfl) (by kernel_rfl) (by kernel_rfl) (fun _ _ _ h => h) (Or.inl ⟨by rfl, ?_⟩) hHeld ?_
        rotate_left
        · intro w hSw
          try dsimp only at hSw
          go_simp
          try with_reducible rfl
        try simp only [Act.put, List.setIfInBounds_toArray, List.set_cons_zero, List.set_cons_succ]
        refine wpAnyH_ready (rs := [12]) (by kernel_rfl) (by simp) ?_
        refine AllReadyH.cons (o := { dst := some 15, op := Op.call { callee := Callee.value (Operand.func 70), args := #[Operand.const (Value.int IntKind.i64 4), Operand.tmp 14], argTypes := #[3, 88] }, type := 9, pos := "ref.go:35", after := #[{ on := 11, ground := Ground.data }, { on := 7, ground := Ground.chain }], guard := none }) rfl (fun K hK => ?_) (AllReadyH.nil)
        go_simp
        refine (h3 _).mono ?_; rintro e w_107 ⟨rfl, hb_107⟩
        try go_wp2_with fail
        refine hK.out _ _ (bk_on hHeld hHeld.2.2.2.2.size hb_107) (fun hHeld2 => ?_)
        clear hK K hHeld; have hHeld := hHeld2; clear hHeld2
        try simp only [Act.put, List.setIfInBounds_toArray, List.set_cons_zero, List.set_cons_succ]
        refine wpAnyH_take (i := 13) (oi := { dst := some 16, op := Op.binOp BinOp.add 9 (Operand.tmp 11) (Operand.tmp 15) 9, type := 9, pos := "ref.go:35", after := #[{ on := 8, ground := Ground.data }, { on := 12, ground := Ground.data }], guard := none }) (v := ?_) rfl (by kernel_rfl) (by kernel_rfl) (by kernel_rfl) (fun _ _ _ h => h) (Or.inl ⟨by rfl, ?_⟩) hHeld ?_
        rotate_left
        · intro w hSw
          try dsimp only at hSw
          go_simp
          try with_reducible rfl
        try simp only [Act.put, List.setIfInBounds_toArray, List.set_cons_zero, List.set_cons_succ]
        refine wpAnyH_ready (rs := [16]) (by kernel_rfl) (by simp) ?_
        refine AllReadyH.cons (o := { dst := some 19, op := Op.call { callee := Callee.value (Operand.func 71), args := #[Operand.tmp 18], argTypes := #[41] }, type := 9, pos := "ref.go:35", after := #[{ on := 15, ground := Ground.data }, { on := 12, ground := Ground.chain }], guard := none }) rfl (fun K hK => ?_) (AllReadyH.nil)
        go_simp
        refine (h4 _).mono ?_; rintro e w_108 ⟨rfl, hb_108⟩
        try go_wp2_with fail
        refine hK.out _ _ (bk_on hHeld hHeld.2.2.2.2.size hb_108) (fun hHeld2 => ?_)
        clear hK K hHeld; have hHeld := hHeld2; clear hHeld2
        try simp only [Act.put, List.setIfInBounds_toArray, List.set_cons_zero, List.set_cons_succ]
        refine wpAnyH_take (i := 17) (oi := { dst := some 20, op := Op.binOp BinOp.add 9 (Operand.tmp 16) (Operand.tmp 19) 9, type := 9, pos := "ref.go:35", after := #[{ on := 13, ground := Ground.data }, { on := 16, ground := Ground.data }], guard := none }) (v := ?_) rfl (by kernel_rfl) (by kernel_rfl) (by kernel_rfl) (fun _ _ _ h => h) (Or.inl ⟨by rfl, ?_⟩) hHeld ?_
        rotate_left
        · intro w hSw
          try dsimp only at hSw
          go_simp
          try with_reducible rfl
        try simp only [Act.put, List.setIfInBounds_toArray, List.set_cons_zero, List.set_cons_succ]
        refine wpAnyH_ready (rs := [20]) (by kernel_rfl) (by simp) ?_
        refine AllReadyH.cons (o := { dst := some 23, op := Op.call { callee := Callee.value (Operand.func 71), args := #[Operand.tmp 22], argTypes := #[41] }, type := 9, pos := "ref.go:35", after := #[{ on := 19, ground := Ground.data }, { on := 16, ground := Ground.chain }], guard := none }) rfl (fun K hK => ?_) (AllReadyH.nil)
        go_simp
        refine (h5 _).mono ?_; rintro e w_109 ⟨rfl, hb_109⟩
        try go_wp2_with fail
        refine hK.out _ _ (bk_on hHeld hHeld.2.2.2.2.size hb_109) (fun hHeld2 => ?_)
        clear hK K hHeld; have hHeld := hHeld2; clear hHeld2
        try simp only [Act.put, List.setIfInBounds_toArray, List.set_cons_zero, List.set_cons_succ]
        refine wpAnyH_take (i := 21) (oi := { dst := some 24, op := Op.binOp BinOp.add 9 (Operand.tmp 20) (Operand.tmp 23) 9, type := 9, pos := "ref.go:35", after := #[{ on := 17, ground := Ground.data }, { on := 20, ground := Ground.data }], guard := none }) (v := ?_) rfl (by kernel_rfl) (by kernel_rfl) (by kernel_rfl) (fun _ _ _ h => h) (Or.inl ⟨by rfl, ?_⟩) hHeld ?_
        rotate_left
        · intro w hSw
          try dsimp only at hSw
          go_simp
          try with_reducible rfl
        try simp only [Act.put, List.setIfInBounds_toArray, List.set_cons_zero, List.set_cons_succ]
        refine wpAnyH_take (i := 22) (oi := { dst := some 2, op := Op.assign (Operand.tmp 24), type := 9, pos := "ref.go:35", after := #[{ on := 21, ground := Ground.data }, { on := 20, ground := Ground.chain }, { on := 0, ground := Ground.phase }, { on := 1, ground := Ground.phase }, { on := 2, ground := Ground.phase }, { on := 3, ground := Ground.phase }, { on := 4, ground := Ground.phase }, { on := 5, ground := Ground.phase }, { on := 6, ground := Ground.phase }, { on := 7, ground := Ground.phase }, { on := 8, ground := Ground.phase }, { on := 9, ground := Ground.phase }, { on := 10, ground := Ground.phase }, { on := 11, ground := Ground.phase }, { on := 12, ground := Ground.phase }, { on := 13, ground := Ground.phase }, { on := 14, ground := Ground.phase }, { on := 15, ground := Ground.phase }, { on := 16, ground := Ground.phase }, { on := 17, ground := Ground.phase }, { on := 18, ground := Ground.phase }, { on := 19, ground := Ground.phase }, { on := 20, ground := Ground.phase }, { on := 21, ground := Ground.phase }], guard := none }) (v := ?_) rfl (by kernel_rfl) (by kernel_rfl) (by kernel_rfl) (fun _ _ _ h => h) (Or.inl ⟨by rfl, ?_⟩) hHeld ?_
        rotate_left
        · intro w hSw
          try dsimp only at hSw
          go_simp
          try with_reducible rfl
        try simp only [Act.put, List.setIfInBounds_toArray, List.set_cons_zero, List.set_cons_succ]
        refine wpAnyH_done (by kernel_rfl) ?_ _
        obtain ⟨-, -, -, -, hfin⟩ := hHeld
        go_wp2_with fail
        go_ret
        exact ⟨by rw [hres.out]; rfl, hfin⟩
    · skip
      refine wp_ld 41 (.tmp 17) rfl _ (sA p) rfl (ld_seg (k := 3) hHeld.1 Tryd.underlying41 rfl (by kernel_rfl) (by kernel_rfl)) ?_
      refine hK.out _ _ (hHeld) (fun hHeld2 => ?_)
      clear hK K hHeld; have hHeld := hHeld2; clear hHeld2
      try simp only [Act.put, List.setIfInBounds_toArray, List.set_cons_zero, List.set_cons_succ]
      refine wpAnyH_ready (rs := [3]) (by kernel_rfl) (by simp) ?_
      refine AllReadyH.cons (o := { dst := some 6, op := Op.call { callee := Callee.value (Operand.func 70), args := #[Operand.const (Value.int IntKind.i64 4), Operand.tmp 5], argTypes := #[3, 88] }, type := 9, pos := "ref.go:35", after := #[{ on := 2, ground := Ground.data }], guard := none }) rfl (fun K hK => ?_) (AllReadyH.nil)
      go_simp
      refine (h1 _).mono ?_; rintro e w_111 ⟨rfl, hb_111⟩
      try go_wp2_with fail
      refine hK.out _ _ (bk_on hHeld hHeld.2.2.2.2.size hb_111) (fun hHeld2 => ?_)
      clear hK K hHeld; have hHeld := hHeld2; clear hHeld2
      try simp only [Act.put, List.setIfInBounds_toArray, List.set_cons_zero, List.set_cons_succ]
      refine wpAnyH_ready (rs := [7]) (by kernel_rfl) (by simp) ?_
      refine AllReadyH.cons (o := { dst := some 10, op := Op.call { callee := Callee.value (Operand.func 70), args := #[Operand.const (Value.int IntKind.i64 4), Operand.tmp 9], argTypes := #[3, 88] }, type := 9, pos := "ref.go:35", after := #[{ on := 6, ground := Ground.data }, { on := 3, ground := Ground.chain }], guard := none }) rfl (fun K hK => ?_) (AllReadyH.nil)
      go_simp
      refine (h2 _).mono ?_; rintro e w_112 ⟨rfl, hb_112⟩
      try go_wp2_with fail
      refine hK.out _ _ (bk_on hHeld hHeld.2.2.2.2.size hb_112) (fun hHeld2 => ?_)
      clear hK K hHeld; have hHeld := hHeld2; clear hHeld2
      try simp only [Act.put, List.setIfInBounds_toArray, List.set_cons_zero, List.set_cons_succ]
      refine wpAnyH_take (i := 8) (oi := { dst := some 11, op := Op.binOp BinOp.add 9 (Operand.tmp 6) (Operand.tmp 10) 9, type := 9, pos := "ref.go:35", after := #[{ on := 3, ground := Ground.data }, { on := 7, ground := Ground.data }], guard := none }) (v := ?_) rfl (by kernel_rfl) (by kernel_rfl) (by kernel_rfl) (fun _ _ _ h => h) (Or.inl ⟨by rfl, ?_⟩) hHeld ?_
      rotate_left
      · intro w hSw
        try dsimp only at hSw
        go_simp
        try with_reducible rfl
      try simp only [Act.put, List.setIfInBounds_toArray, List.set_cons_zero, List.set_cons_succ]
      refine wpAnyH_ready (rs := [12]) (by kernel_rfl) (by simp) ?_
      refine AllReadyH.cons (o := { dst := some 15, op := Op.call { callee := Callee.value (Operand.func 70), args := #[Operand.const (Value.int IntKind.i64 4), Operand.tmp 14], argTypes := #[3, 88] }, type := 9, pos := "ref.go:35", after := #[{ on := 11, ground := Ground.data }, { on := 7, ground := Ground.chain }], guard := none }) rfl (fun K hK => ?_) (AllReadyH.nil)
      go_simp
      refine (h3 _).mono ?_; rintro e w_113 ⟨rfl, hb_113⟩
      try go_wp2_with fail
      refine hK.out _ _ (bk_on hHeld hHeld.2.2.2.2.size hb_113) (fun hHeld2 => ?_)
      clear hK K hHeld; have hHeld := hHeld2; clear hHeld2
      try simp only [Act.put, List.setIfInBounds_toArray, List.set_cons_zero, List.set_cons_succ]
      refine wpAnyH_take (i := 13) (oi := { dst := some 16, op := Op.binOp BinOp.add 9 (Operand.tmp 11) (Operand.tmp 15) 9, type := 9, pos := "ref.go:35", after := #[{ on := 8, ground := Ground.data }, { on := 12, ground := Ground.data }], guard := none }) (v := ?_) rfl (by kernel_rfl) (by kernel_rfl) (by kernel_rfl) (fun _ _ _ h => h) (Or.inl ⟨by rfl, ?_⟩) hHeld ?_
      rotate_left
      · intro w hSw
        try dsimp only at hSw
        go_simp
        try with_reducible rfl
      try simp only [Act.put, List.setIfInBounds_toArray, List.set_cons_zero, List.set_cons_succ]
      refine wpAnyH_ready (rs := [16]) (by kernel_rfl) (by simp) ?_
      refine AllReadyH.cons (o := { dst := some 19, op := Op.call { callee := Callee.value (Operand.func 71), args := #[Operand.tmp 18], argTypes := #[41] }, type := 9, pos := "ref.go:35", after := #[{ on := 15, ground := Ground.data }, { on := 12, ground := Ground.chain }], guard := none }) rfl (fun K hK => ?_) (AllReadyH.nil)
      go_simp
      refine (h4 _).mono ?_; rintro e w_114 ⟨rfl, hb_114⟩
      try go_wp2_with fail
      refine hK.out _ _ (bk_on hHeld hHeld.2.2.2.2.size hb_114) (fun hHeld2 => ?_)
      clear hK K hHeld; have hHeld := hHeld2; clear hHeld2
      try simp only [Act.put, List.setIfInBounds_toArray, List.set_cons_zero, List.set_cons_succ]
      refine wpAnyH_take (i := 17) (oi := { dst := some 20, op := Op.binOp BinOp.add 9 (Operand.tmp 16) (Operand.tmp 19) 9, type := 9, pos := "ref.go:35", after := #[{ on := 13, ground := Ground.data }, { on := 16, ground := Ground.data }], guard := none }) (v := ?_) rfl (by kernel_rfl) (by kernel_rfl) (by kernel_rfl) (fun _ _ _ h => h) (Or.inl ⟨by rfl, ?_⟩) hHeld ?_
      rotate_left
      · intro w hSw
        try dsimp only at hSw
        go_simp
        try with_reducible rfl
      try simp only [Act.put, List.setIfInBounds_toArray, List.set_cons_zero, List.set_cons_succ]
      refine wpAnyH_ready (rs := [20]) (by kernel_rfl) (by simp) ?_
      refine AllReadyH.cons (o := { dst := some 23, op := Op.call { callee := Callee.value (Operand.func 71), args := #[Operand.tmp 22], argTypes := #[41] }, type := 9, pos := "ref.go:35", after := #[{ on := 19, ground := Ground.data }, { on := 16, ground := Ground.chain }], guard := none }) rfl (fun K hK => ?_) (AllReadyH.nil)
      go_simp
      refine (h5 _).mono ?_; rintro e w_115 ⟨rfl, hb_115⟩
      try go_wp2_with fail
      refine hK.out _ _ (bk_on hHeld hHeld.2.2.2.2.size hb_115) (fun hHeld2 => ?_)
      clear hK K hHeld; have hHeld := hHeld2; clear hHeld2
      try simp only [Act.put, List.setIfInBounds_toArray, List.set_cons_zero, List.set_cons_succ]
      refine wpAnyH_take (i := 21) (oi := { dst := some 24, op := Op.binOp BinOp.add 9 (Operand.tmp 20) (Operand.tmp 23) 9, type := 9, pos := "ref.go:35", after := #[{ on := 17, ground := Ground.data }, { on := 20, ground := Ground.data }], guard := none }) (v := ?_) rfl (by kernel_rfl) (by kernel_rfl) (by kernel_rfl) (fun _ _ _ h => h) (Or.inl ⟨by rfl, ?_⟩) hHeld ?_
      rotate_left
      · intro w hSw
        try dsimp only at hSw
        go_simp
        try with_reducible rfl
      try simp only [Act.put, List.setIfInBounds_toArray, List.set_cons_zero, List.set_cons_succ]
      refine wpAnyH_take (i := 22) (oi := { dst := some 2, op := Op.assign (Operand.tmp 24), type := 9, pos := "ref.go:35", after := #[{ on := 21, ground := Ground.data }, { on := 20, ground := Ground.chain }, { on := 0, ground := Ground.phase }, { on := 1, ground := Ground.phase }, { on := 2, ground := Ground.phase }, { on := 3, ground := Ground.phase }, { on := 4, ground := Ground.phase }, { on := 5, ground := Ground.phase }, { on := 6, ground := Ground.phase }, { on := 7, ground := Ground.phase }, { on := 8, ground := Ground.phase }, { on := 9, ground := Ground.phase }, { on := 10, ground := Ground.phase }, { on := 11, ground := Ground.phase }, { on := 12, ground := Ground.phase }, { on := 13, ground := Ground.phase }, { on := 14, ground := Ground.phase }, { on := 15, ground := Ground.phase }, { on := 16, ground := Ground.phase }, { on := 17, ground := Ground.phase }, { on := 18, ground := Ground.phase }, { on := 19, ground := Ground.phase }, { on := 20, ground := Ground.phase }, { on := 21, ground := Ground.phase }], guard := none }) (v := ?_) rfl (by kernel_rfl) (by kernel_rfl) (by kernel_rfl) (fun _ _ _ h => h) (Or.inl ⟨by rfl, ?_⟩) hHeld ?_
      rotate_left
      · intro w hSw
        try dsimp only at hSw
        go_simp
        try with_reducible rfl
      try simp only [Act.put, List.setIfInBounds_toArray, List.set_cons_zero, List.set_cons_succ]
      refine wpAnyH_done (by kernel_rfl) ?_ _
      obtain ⟨-, -, -, -, hfin⟩ := hHeld
      go_wp2_with fail
      go_ret
      exact ⟨by rw [hres.out]; rfl, hfin⟩
end Go.Proofs.YtcjjgfejamddjaaDoor.Rf
