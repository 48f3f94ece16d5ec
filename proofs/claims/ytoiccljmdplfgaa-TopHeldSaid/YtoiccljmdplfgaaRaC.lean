/-
  THE REFERENCE OF AREAS, WALKED: inside, the size, the zone.
-/
import Derived.Test.YtoiccljmdplfgaaRaB
import Derived.Test.YtoiccljmdplfgaaAr7
namespace Go.Proofs.Ytoiccljmdplfgaa.Ar
open Go.ChangeShapes Go.WideShapes Go.ChangeAt Go.RowKit Go.Shelf
open Go.Proofs.Ytoiccljmdplfgaa
open Go.Proofs.Ytoiccljmdplfgaa.Wd
open Go.Proofs.Ytoiccljmdplfgaa.Pl
open Go.Proofs.Ytoiccljmdplfgaa.Nv
open Go.Proofs.Ytoiccljmdplfgaa.Ld
set_option linter.unusedVariables false
set_option linter.unusedSimpArgs false
attribute [local go_sem] Oper.semAt_some
attribute [local go_sem ↓] Go.wp_at_zero Go.wp_at_succ
attribute [local go_sem ↓] ldA_sem ldP_sem
attribute [local go_sem] ldSem_run
/-- whether a point crosses a side: the document's -/
def crR (a b p : P2) : Bool := if p.la < a.la then (decide (b.la ≤ p.la) && (decide (p.la < a.la) && decide (turnV b a p = 1))) else (decide (a.la ≤ p.la) && (decide (p.la < b.la) && decide (turnV a b p = 1)))
theorem crR_eq (a b p : P2) : crR a b p = crB a b p := by
  unfold crR crB
  by_cases h1 : p.la < a.la <;> by_cases h2 : b.la < a.la
  · rw [if_pos h1, if_pos h2]
  · rw [if_pos h1, if_neg h2, decide_eq_false (show ¬ b.la ≤ p.la by omega), decide_eq_false (show ¬ a.la ≤ p.la by omega)]; rfl
  · rw [if_neg h1, if_pos h2, decide_eq_false (show ¬ p.la < b.la by omega), decide_eq_false (show ¬ p.la < a.la by omega)]; simp
  · rw [if_neg h1, if_neg h2]
def odK (l : List P2) (p : P2) (k : Nat) : Bool := odB p (sidesK l k)
theorem odK_succ (l : List P2) (p : P2) (k : Nat) : odK l p (k + 1) = if crR (pt_ l k) (pt_ l (nx l k)) p = true then !odK l p k else odK l p k := by
  unfold odK; rw [sidesK_succ, odB_snoc, crR_eq]
theorem sd_mk {w W : World} {n c m : Nat} {z : ByteArray} {ad : Addr} {q2 : P2} {l : List P2} (hq : pt_ l m = q2) (hm : m < n) (hx : Blk W w.heap.size 34 (arA z (some ad) n c)) (hr : Pts W W.heap.size (some ad) n l) :
    Blk W w.heap.size 34 (arA z (some ad) n c) ∧ W.cell? ⟨w.heap.size, 1, none⟩ = some (.slice (some ad) n c) ∧ ldT 23 (.pointer (some (ad.add (m * 2)))) W = some q2.A := ⟨hx, hx.cell 1, ld_at2 hr hm hq⟩
theorem sd_of {w W : World} {n c m : Nat} {z : ByteArray} {ad : Addr} {q2 : P2} {l : List P2} {B : Nat} (hq : pt_ l m = q2) (hm : m < n) (hx : Blk W w.heap.size 34 (arA z (some ad) n c)) (hr : Pts W B (some ad) n l) :
    Blk W w.heap.size 34 (arA z (some ad) n c) ∧ W.cell? ⟨w.heap.size, 1, none⟩ = some (.slice (some ad) n c) ∧ ldT 23 (.pointer (some (ad.add (m * 2)))) W = some q2.A := ⟨hx, hx.cell 1, ld_at2 hr hm hq⟩
set_option maxRecDepth 100000 in
set_option maxHeartbeats 6400000 in
theorem rInside_any (z : ByteArray) (A : Option Addr) (n c : Nat) (l : List P2) (p : P2) (w : World) (hz : z.size ≤ maxLen) (hR : Pts w w.heap.size A n l) (hm : n ≤ maxLen) :
    Calls Try.prog 28 #[arV z A n c, p.V] w fun e w' => e = .returned (.bool (rtB z l p && inB l p)) ∧ Below w.heap.size w w' := by
  have i1 := ((BI.start w).alloc (.cells (arA z A n c) 34)).alloc (.cells p.A 23)
  have x1 := (Blk.new w 34 (arA z A n c)).alloc (.cells p.A 23)
  have y1 := blk_at (w.alloc (.cells (arA z A n c) 34)) 23 p.A (sz1 _ _ rfl)
  have hrt := raright_any z A n c l p _ hz (Pts.more (hR.below i1.b) i1.b.size) hm
  cases hr : rtB z l p
  · rw [hr] at hrt
    clear hr
    go_enter Try.func28, Try.ntmps28
    go_wp2_with (first | refine wpList_row_g rfl 34 _ rfl _ rfl _ _ _ _ x1 Try.underlying34 rfl (by kernel_rfl) ?_ | refine wpList_row_g rfl 23 _ rfl _ rfl _ _ _ _ y1 Try.underlying23 rfl (by kernel_rfl) ?_)
    refine hrt.mono ?_; rintro e w2 ⟨rfl, hb2⟩
    have i2 := i1.call hb2
    go_wp2_with fail
    go_ret
    exact ⟨rfl, i2⟩
  rw [hr] at hrt
  have hll := hR.1
  have hn3 : 3 ≤ n ∧ n ≤ 1024 := by
    unfold rtB at hr
    rw [Bool.and_eq_true] at hr
    have q1 := (ar_iff.1 hr.2).2.1
    omega
  obtain ⟨ad, rfl, -⟩ := hR.row (k := 0) (by omega) (by omega)
  have hed := fun W (i : BI w W) => rEdge_any z (some ad) n c l p W hz (Pts.more (hR.below i.b) i.b.size) hm
  rw [hr] at hed
  simp only [Bool.true_and] at hed ⊢
  clear hr
  have HI := Lib.hid (show inB l p = (edB l p || odK l p n) by unfold inB odK; rw [← hll])
  generalize inB l p = IB at *
  go_enter Try.func28, Try.ntmps28
  go_wp2_with (first | refine wpList_row_g rfl 34 _ rfl _ rfl _ _ _ _ x1 Try.underlying34 rfl (by kernel_rfl) ?_ | refine wpList_row_g rfl 23 _ rfl _ rfl _ _ _ _ y1 Try.underlying23 rfl (by kernel_rfl) ?_)
  refine hrt.mono ?_; rintro e w2 ⟨rfl, hb2⟩
  have i2 := i1.call hb2
  have x2 := x1.below hb2 x1.lt
  have y2 := y1.below hb2 y1.lt
  clear i1 x1 y1 hb2 hrt
  go_wp2_with (first | refine wpList_row_g rfl 34 _ rfl _ rfl _ _ _ _ x2 Try.underlying34 rfl (by kernel_rfl) ?_ | refine wpList_row_g rfl 23 _ rfl _ rfl _ _ _ _ y2 Try.underlying23 rfl (by kernel_rfl) ?_)
  have hed2 := hed _ i2
  cases hEB : edB l p
  rotate_left
  · rw [hEB] at hed2
    have HF := Lib.hid (show IB = true by rw [HI.out, hEB]; rfl)
    clear hEB
    refine hed2.mono ?_; rintro e w3 ⟨rfl, hb3⟩
    have i3 := i2.call hb3
    go_wp2_with fail
    go_ret
    exact ⟨by rw [HF.out]; rfl, i3⟩
  rw [hEB] at hed2
  have HO := Lib.hid (show IB = odK l p n by rw [HI.out, hEB]; rfl)
  clear hEB
  refine hed2.mono ?_; rintro e w3 ⟨rfl, hb3⟩
  have i3 := i2.call hb3
  have x3 := x2.below hb3 x2.lt
  have y3 := y2.below hb3 y2.lt
  clear i2 x2 y2 hb3 hed2 hed
  have d1 : w3.cell? ⟨w.heap.size, 1, none⟩ = some (.slice (some ad) n c) := x3.cell 1
  go_wp2_with fail
  go_loopw [5, 23] (fun o i w' => ∃ k : Nat, i = .int .i64 k ∧ k ≤ n ∧ o = .bool (odK l p k) ∧ BI w w' ∧ Blk w' w.heap.size 34 (arA z (some ad) n c) ∧ Blk w' (w.heap.size + 1) 23 p.A) (fun _ i _ => n - (intOf i).toNat)
  case atStart => exact ⟨0, rfl, Nat.zero_le _, rfl, i3, x3, y3⟩
  case round =>
    clear i3 d1 x3 y3
    obtain ⟨k, rfl, hk, rfl, hb, hx, hy⟩ := hrel
    by_cases hlt : k < n
    · skip
      have hnxt := nx_mod (l := l) hll hlt rfl
      obtain ⟨m, hmm⟩ : ∃ m, nx l k = m := ⟨_, rfl⟩
      rw [hmm] at hnxt
      obtain ⟨hmn, hrem⟩ := hnxt
      obtain ⟨q1, hq1⟩ : ∃ q, pt_ l k = q := ⟨_, rfl⟩
      obtain ⟨q2, hq2⟩ : ∃ q, pt_ l m = q := ⟨_, rfl⟩
      have hlt' : (k : Int) < (n : Int) := by omega
      have hmI : (m : Int) < (n : Int) := by omega
      have hn0 : ¬ n = 0 := by omega
      have hn00 : ¬ (n : Int) = 0 := by omega
      have hw1 : IntKind.i64.wrap ((k : Int) + 1) = (k : Int) + 1 := by simp [IntKind.wrap, IntKind.bits, IntKind.signed]; omega
      have hw2 : IntKind.i64.wrap (m : Int) = (m : Int) := by simp [IntKind.wrap, IntKind.bits, IntKind.signed]; omega
      have hrow : Row wr w.heap.size (ad.add (k * 2)) q1.A := by
        obtain ⟨ad', e, hr⟩ := (hR.below hb.b).row (k := k) hlt (by omega)
        obtain rfl := Option.some.inj e
        rwa [pt_eq, hq1] at hr
      have HT := Lib.hid (odK_succ l p k)
      rw [hmm, hq1, hq2] at HT
      clear hmm hq1
      generalize odK l p k = OK at *
      have hb1 := hb.alloc (.cells q1.A 23)
      have u1 := Blk.new wr 23 q1.A
      have hx1 := hx.alloc (.cells q1.A 23)
      have hy1 := hy.alloc (.cells q1.A 23)
      have hwz := hb.b.size
      have hx9 : w.heap.size ≠ wr.heap.size := Nat.ne_of_lt hx.lt
      have hy9 : w.heap.size + 1 ≠ wr.heap.size := Nat.ne_of_lt hy.lt
      clear hb hx hy
      go_wp2_with (first | refine wpList_at_g rfl 23 _ rfl w.heap.size _ q1.A rfl _ hrow Try.underlying23 rfl (by kernel_rfl) ?_ | refine wpList_store_new rfl 23 _ _ rfl rfl wr.heap.size q1.A rfl rfl _ #[.int .i64 0, .int .i64 0] wr rfl rfl rfl (by kernel_rfl) (by kernel_rfl) ?_)
      obtain ⟨W1, hW1⟩ : ∃ W1 : World, W1 = wr.alloc (.cells q1.A 23) := ⟨_, rfl⟩
      rw [← hW1] at hb1 u1 hx1 hy1
      rw [← hW1]
      clear hW1 hrow
      have x0 : Blk W1.drew w.heap.size 34 (arA z (some ad) n c) := hx1
      have y0 : Blk W1.drew (w.heap.size + 1) 23 p.A := hy1
      have u0 : Blk W1.drew wr.heap.size 23 q1.A := u1
      have iv0 : BI w W1.drew := hb1.drew
      clear hx1 hy1 u1 hb1
      refine wp_region_held_drew (S := fun w' => Blk w' w.heap.size 34 (arA z (some ad) n c) ∧ w'.cell? ⟨w.heap.size, 1, none⟩ = some (.slice (some ad) n c) ∧ ldT 23 (.pointer (some (ad.add (m * 2)))) w' = some q2.A) (by kernel_rfl) (sd_of hq2 hmn x0 (hR.below iv0.b)) (fun hHeld => ?_)
      refine wpAnyH_take (i := 0) (oi := { dst := some 28, op := Op.fieldAddr 34 (Operand.tmp 2) 1, type := 0, pos := "ref.go:56", after := #[], guard := none }) (v := ?_) rfl (by kernel_rfl) (by kernel_rfl) (by kernel_rfl) (fun _ _ _ h => h) (Or.inl ⟨by rfl, ?_⟩) hHeld ?_
      rotate_left
      · intro w hSw
        try dsimp only at hSw
        go_simp
        try with_reducible rfl
      try simp only [Act.put, List.setIfInBounds_toArray, List.set_cons_zero, List.set_cons_succ]
      refine wpAnyH_take (i := 1) (oi := { dst := some 29, op := Op.load 32 (Operand.tmp 28), type := 32, pos := "ref.go:56", after := #[{ on := 0, ground := Ground.data }], guard := none }) (v := ?_) rfl (by kernel_rfl) (by kernel_rfl) (by kernel_rfl) (fun _ _ _ h => h) (Or.inl ⟨by rfl, ?_⟩) hHeld ?_
      rotate_left
      · intro w hSw
        try dsimp only at hSw
        go_simp
        try with_reducible rfl
      try simp only [Act.put, List.setIfInBounds_toArray, List.set_cons_zero, List.set_cons_succ]
      refine wpAnyH_take (i := 2) (oi := { dst := some 30, op := Op.move (Operand.tmp 7), type := 3, pos := "ref.go:56", after := #[], guard := none }) (v := ?_) rfl (by kernel_rfl) (by kernel_rfl) (by kernel_rfl) (fun _ _ _ h => h) (Or.inl ⟨by rfl, ?_⟩) hHeld ?_
      rotate_left
      · intro w hSw
        try dsimp only at hSw
        go_simp
        try with_reducible rfl
      try simp only [Act.put, List.setIfInBounds_toArray, List.set_cons_zero, List.set_cons_succ]
      refine wpAnyH_take (i := 3) (oi := { dst := some 31, op := Op.binOp BinOp.add 3 (Operand.tmp 30) (Operand.const (Value.int IntKind.i64 1)) 3, type := 3, pos := "ref.go:56", after := #[{ on := 2, ground := Ground.data }], guard := none }) (v := ?_) rfl (by kernel_rfl) (by kernel_rfl) (by kernel_rfl) (fun _ _ _ h => h) (Or.inl ⟨by rfl, ?_⟩) hHeld ?_
      rotate_left
      · intro w hSw
        try dsimp only at hSw
        go_simp
        try with_reducible rfl
      try simp only [Act.put, List.setIfInBounds_toArray, List.set_cons_zero, List.set_cons_succ]
      refine wpAnyH_take (i := 4) (oi := { dst := some 32, op := Op.move (Operand.tmp 6), type := 3, pos := "ref.go:56", after := #[], guard := none }) (v := ?_) rfl (by kernel_rfl) (by kernel_rfl) (by kernel_rfl) (fun _ _ _ h => h) (Or.inl ⟨by rfl, ?_⟩) hHeld ?_
      rotate_left
      · intro w hSw
        try dsimp only at hSw
        go_simp
        try with_reducible rfl
      try simp only [Act.put, List.setIfInBounds_toArray, List.set_cons_zero, List.set_cons_succ]
      refine wpAnyH_take (i := 5) (oi := { dst := some 33, op := Op.binOp BinOp.rem 3 (Operand.tmp 31) (Operand.tmp 32) 3, type := 3, pos := "ref.go:56", after := #[{ on := 3, ground := Ground.data }, { on := 4, ground := Ground.data }], guard := none }) (v := ?_) rfl (by kernel_rfl) (by kernel_rfl) (by kernel_rfl) (fun _ _ _ h => h) (Or.inl ⟨by rfl, ?_⟩) hHeld ?_
      rotate_left
      · intro w hSw
        try dsimp only at hSw
        go_simp
        try with_reducible rfl
      try simp only [Act.put, List.setIfInBounds_toArray, List.set_cons_zero, List.set_cons_succ]
      refine wpAnyH_take (i := 6) (oi := { dst := some 34, op := Op.indexAddr 32 (Operand.tmp 29) (Operand.tmp 33), type := 0, pos := "ref.go:56", after := #[{ on := 1, ground := Ground.data }, { on := 5, ground := Ground.data }], guard := none }) (v := ?_) rfl (by kernel_rfl) (by kernel_rfl) (by kernel_rfl) (fun _ _ _ h => h) (Or.inl ⟨by rfl, ?_⟩) hHeld ?_
      rotate_left
      · intro w hSw
        try dsimp only at hSw
        go_simp
        try with_reducible rfl
      try simp only [Act.put, List.setIfInBounds_toArray, List.set_cons_zero, List.set_cons_succ]
      refine wpAnyH_take (i := 7) (oi := { dst := some 35, op := Op.load 23 (Operand.tmp 34), type := 23, pos := "ref.go:56", after := #[{ on := 6, ground := Ground.data }], guard := none }) (v := ?_) rfl (by kernel_rfl) (by kernel_rfl) (by kernel_rfl) (fun _ _ _ h => h) (Or.inl ⟨by rfl, ?_⟩) hHeld ?_
      rotate_left
      · intro w hSw
        try dsimp only at hSw
        go_simp
        try with_reducible rfl
      try simp only [Act.put, List.setIfInBounds_toArray, List.set_cons_zero, List.set_cons_succ]
      refine wpAnyH_ready (rs := [8]) (by kernel_rfl) (by simp) ?_
      refine AllReadyH.cons (o := { dst := some 9, op := Op.alloc 23, type := 0, pos := "ref.go:56", after := #[], guard := none }) rfl (fun K hK => ?_) (AllReadyH.nil)
      go_simp
      have v_1 := Blk.new W1.drew 23 #[.int .i64 0, .int .i64 0]
      have iv_1 := iv0.alloc (.cells #[.int .i64 0, .int .i64 0] 23)
      have x_1 := x0.alloc (.cells #[.int .i64 0, .int .i64 0] 23)
      have u_1 := u0.alloc (.cells #[.int .i64 0, .int .i64 0] 23)
      have y_1 := y0.alloc (.cells #[.int .i64 0, .int .i64 0] 23)
      refine hK.out _ _ (sd_of hq2 hmn x_1 (hR.below iv_1.b)) (fun hHeld2 => ?_)
      clear hK K hHeld; have hHeld := hHeld2; clear hHeld2
      try simp only [Act.put, List.setIfInBounds_toArray, List.set_cons_zero, List.set_cons_succ]
      refine wpAnyH_ready (rs := [9]) (by kernel_rfl) (by simp) ?_
      refine AllReadyH.cons (o := { dst := none, op := Op.store 23 (Operand.tmp 9) (Operand.tmp 35), type := 0, pos := "ref.go:56", after := #[{ on := 8, ground := Ground.data }, { on := 7, ground := Ground.data }, { on := 0, ground := Ground.phase }, { on := 1, ground := Ground.phase }, { on := 2, ground := Ground.phase }, { on := 3, ground := Ground.phase }, { on := 4, ground := Ground.phase }, { on := 5, ground := Ground.phase }, { on := 6, ground := Ground.phase }, { on := 7, ground := Ground.phase }, { on := 8, ground := Ground.phase }], guard := none }) rfl (fun K hK => ?_) (AllReadyH.nil)
      refine wp_store_g 23 (.tmp 9) (.tmp 35) rfl rfl _ 0 q2.A q2.A rfl rfl _ _ v_1 (by show 0 + 2 ≤ 2; decide) (by kernel_rfl) (by kernel_rfl) (by kernel_rfl) ?_
      have v_2 := Blk.row v_1 q2.A
      have iv_2 := bi_row iv_1 (iv0.b.size) q2.A
      have x_2 := Blk.rowFar x_1 (Nat.ne_of_lt x0.lt) q2.A
      have u_2 := Blk.rowFar u_1 (Nat.ne_of_lt u0.lt) q2.A
      have y_2 := Blk.rowFar y_1 (Nat.ne_of_lt y0.lt) q2.A
      refine hK.out _ _ (sd_of hq2 hmn x_2 (hR.below iv_2.b)) (fun hHeld2 => ?_)
      clear hK K hHeld; have hHeld := hHeld2; clear hHeld2
      try simp only [Act.put, List.setIfInBounds_toArray, List.set_cons_zero, List.set_cons_succ]
      refine wpAnyH_done (by kernel_rfl) ?_ _
      clear hHeld
      obtain ⟨W2, hW2⟩ : ∃ W2 : World, W2 = (W1.alloc (.cells #[.int .i64 0, .int .i64 0] 23)).drew.setRow W1.heap.size q2.A := ⟨_, rfl⟩
      obtain ⟨ud, hud⟩ : ∃ ud, ud = W1.heap.size := ⟨_, rfl⟩
      obtain ⟨uc, huc⟩ : ∃ uc, uc = wr.heap.size := ⟨_, rfl⟩
      have hne : uc ≠ ud := by rw [hud, huc]; exact Nat.ne_of_lt u0.lt
      have hude : w.heap.size ≤ ud := by rw [hud]; exact iv0.b.size
      have huce : w.heap.size ≤ uc := by rw [huc]; exact hwz
      have hux : w.heap.size ≠ ud := by rw [hud]; exact Nat.ne_of_lt x0.lt
      have huy : w.heap.size + 1 ≠ ud := by rw [hud]; exact Nat.ne_of_lt y0.lt
      have hux2 : w.heap.size ≠ uc := by rw [huc]; exact fun e => hx9 e
      have huy2 : w.heap.size + 1 ≠ uc := by rw [huc]; exact fun e => hy9 e
      have x2 : Blk W2 w.heap.size 34 (arA z (some ad) n c) := by rw [hW2]; exact x_2
      have y2 : Blk W2 (w.heap.size + 1) 23 p.A := by rw [hW2]; exact y_2
      have u2 : Blk W2 uc 23 q1.A := by rw [hW2, huc]; exact u_2
      have v2 : Blk W2 ud 23 q2.A := by rw [hW2, hud]; exact v_2
      have j2 : BI w W2 := by rw [hW2]; exact iv_2
      rw [← hW2, ← hud, ← huc]
      clear hW2 hud huc x0 y0 u0 iv0 iv_1 iv_2 u_1 u_2 v_1 v_2 x_1 x_2 y_1 y_2
      have c0 : W2.cell? ⟨uc, 0, none⟩ = some (.int .i64 q1.la) := u2.cell 0
      have p0 : W2.cell? ⟨w.heap.size + 1, 0, none⟩ = some (.int .i64 p.la) := y2.cell 0
      by_cases hsw : p.la < q1.la
      · have HC := Lib.hid (show crR q1 q2 p = (decide (q2.la ≤ p.la) && (decide (p.la < q1.la) && decide (turnV q2 q1 p = 1))) by unfold crR; rw [if_pos hsw])
        have v3 : Blk (W2.setRow uc q2.A) ud 23 q2.A := v2.rowFar hne.symm _
        go_upto_region 13 with (first | refine wpList_row_g rfl 23 _ rfl _ rfl _ _ _ _ u2 Try.underlying23 rfl (by kernel_rfl) ?_ | refine wpList_row_g rfl 23 _ rfl _ rfl _ _ _ _ v2 Try.underlying23 rfl (by kernel_rfl) ?_ | refine wpList_store_g rfl 23 _ _ rfl rfl _ 0 q2.A q2.A rfl rfl _ _ u2 (by show 0 + 2 ≤ 2; decide) (by kernel_rfl) (by kernel_rfl) (by kernel_rfl) ?_ | refine wpList_store_g rfl 23 _ _ rfl rfl _ 0 q1.A q1.A rfl rfl _ _ v3 (by show 0 + 2 ≤ 2; decide) (by kernel_rfl) (by kernel_rfl) (by kernel_rfl) ?_)
        obtain ⟨W3, hW3⟩ : ∃ W3 : World, W3 = (W2.setRow uc q2.A).setRow ud q1.A := ⟨_, rfl⟩
        have x5 : Blk W3 w.heap.size 34 (arA z (some ad) n c) := by rw [hW3]; exact (x2.rowFar hux2 _).rowFar hux _
        have y5 : Blk W3 (w.heap.size + 1) 23 p.A := by rw [hW3]; exact (y2.rowFar huy2 _).rowFar huy _
        have u5 : Blk W3 uc 23 q2.A := by rw [hW3]; exact (Blk.row u2 q2.A).rowFar hne _
        have v5 : Blk W3 ud 23 q1.A := by rw [hW3]; exact Blk.row v3 q1.A
        have j5 : BI w W3 := by rw [hW3]; exact bi_row (bi_row j2 huce _) hude _
        rw [← hW3]
        clear hW3 x2 y2 u2 v2 v3 j2 c0 p0
        have c0 : W3.cell? ⟨uc, 0, none⟩ = some (.int .i64 q2.la) := u5.cell 0
        have d0 : W3.cell? ⟨ud, 0, none⟩ = some (.int .i64 q1.la) := v5.cell 0
        have p0 : W3.cell? ⟨w.heap.size + 1, 0, none⟩ = some (.int .i64 p.la) := y5.cell 0
        have g2 : p.la < q1.la := hsw
        by_cases g1 : q2.la ≤ p.la
        rotate_left
        · have HK := Lib.hid (HT.out.trans (by rw [if_neg (by rw [HC.out, decide_eq_false g1]; simp)]))
          clear HT HC
          go_wp2_with fail
          go_roundw
          case rel => exact ⟨k + 1, by go_num, by omega, by rw [HK.out], j5, x5, y5⟩
          case measure => simp [intOf]; omega
        have hcv := Lib.hid (HC.out.trans (by rw [decide_eq_true g1, decide_eq_true g2]; rfl : (decide (q2.la ≤ p.la) && (decide (p.la < q1.la) && decide (turnV q2 q1 p = 1))) = decide (turnV q2 q1 p = 1)))
        have htn := fun W => rturn_any q2 q1 p W
        clear HC
        go_wp2_with (first | refine wpList_row_g rfl 23 _ rfl _ rfl _ _ _ _ u5 Try.underlying23 rfl (by kernel_rfl) ?_ | refine wpList_row_g rfl 23 _ rfl _ rfl _ _ _ _ v5 Try.underlying23 rfl (by kernel_rfl) ?_ | refine wpList_row_g rfl 23 _ rfl _ rfl _ _ _ _ y5 Try.underlying23 rfl (by kernel_rfl) ?_)
        refine (htn _).mono ?_; rintro e w3 ⟨rfl, hb3⟩
        have j3 := j5.call hb3
        have x3 := x5.below hb3 x5.lt
        have y3 := y5.below hb3 y5.lt
        clear htn hb3 j5 x5 y5 u5 v5 c0 d0 p0
        by_cases g3 : turnV q2 q1 p = 1
        · have HK := Lib.hid (HT.out.trans (by rw [if_pos (by rw [hcv.out, decide_eq_true g3])]))
          have g : (turnV q2 q1 p == 1) = true := by simp [g3]
          clear HT hcv g3
          go_wp2_with fail
          go_roundw
          case rel => exact ⟨k + 1, by go_num, by omega, by rw [HK.out], j3, x3, y3⟩
          case measure => simp [intOf]; omega
        · have HK := Lib.hid (HT.out.trans (by rw [if_neg (by rw [hcv.out, decide_eq_false g3]; decide)]))
          have g : (turnV q2 q1 p == 1) = false := by simp [g3]
          clear HT hcv g3
          go_wp2_with fail
          go_roundw
          case rel => exact ⟨k + 1, by go_num, by omega, by rw [HK.out], j3, x3, y3⟩
          case measure => simp [intOf]; omega

      · have HC := Lib.hid (show crR q1 q2 p = (decide (q1.la ≤ p.la) && (decide (p.la < q2.la) && decide (turnV q1 q2 p = 1))) by unfold crR; rw [if_neg hsw])
        go_upto_region 13 with fail
        clear c0 p0
        have c0 : W2.cell? ⟨uc, 0, none⟩ = some (.int .i64 q1.la) := u2.cell 0
        have d0 : W2.cell? ⟨ud, 0, none⟩ = some (.int .i64 q2.la) := v2.cell 0
        have p0 : W2.cell? ⟨w.heap.size + 1, 0, none⟩ = some (.int .i64 p.la) := y2.cell 0
        have g1 : q1.la ≤ p.la := by omega
        by_cases g2 : p.la < q2.la
        rotate_left
        · have HK := Lib.hid (HT.out.trans (by rw [if_neg (by rw [HC.out, decide_eq_false g2]; simp)]))
          clear HT HC
          go_wp2_with fail
          go_roundw
          case rel => exact ⟨k + 1, by go_num, by omega, by rw [HK.out], j2, x2, y2⟩
          case measure => simp [intOf]; omega
        have hcv := Lib.hid (HC.out.trans (by rw [decide_eq_true g1, decide_eq_true g2]; rfl : (decide (q1.la ≤ p.la) && (decide (p.la < q2.la) && decide (turnV q1 q2 p = 1))) = decide (turnV q1 q2 p = 1)))
        have htn := fun W => rturn_any q1 q2 p W
        clear HC
        go_wp2_with (first | refine wpList_row_g rfl 23 _ rfl _ rfl _ _ _ _ u2 Try.underlying23 rfl (by kernel_rfl) ?_ | refine wpList_row_g rfl 23 _ rfl _ rfl _ _ _ _ v2 Try.underlying23 rfl (by kernel_rfl) ?_ | refine wpList_row_g rfl 23 _ rfl _ rfl _ _ _ _ y2 Try.underlying23 rfl (by kernel_rfl) ?_)
        refine (htn _).mono ?_; rintro e w3 ⟨rfl, hb3⟩
        have j3 := j2.call hb3
        have x3 := x2.below hb3 x2.lt
        have y3 := y2.below hb3 y2.lt
        clear htn hb3 j2 x2 y2 u2 v2 c0 d0 p0
        by_cases g3 : turnV q1 q2 p = 1
        · have HK := Lib.hid (HT.out.trans (by rw [if_pos (by rw [hcv.out, decide_eq_true g3])]))
          have g : (turnV q1 q2 p == 1) = true := by simp [g3]
          clear HT hcv g3
          go_wp2_with fail
          go_roundw
          case rel => exact ⟨k + 1, by go_num, by omega, by rw [HK.out], j3, x3, y3⟩
          case measure => simp [intOf]; omega
        · have HK := Lib.hid (HT.out.trans (by rw [if_neg (by rw [hcv.out, decide_eq_false g3]; decide)]))
          have g : (turnV q1 q2 p == 1) = false := by simp [g3]
          clear HT hcv g3
          go_wp2_with fail
          go_roundw
          case rel => exact ⟨k + 1, by go_num, by omega, by rw [HK.out], j3, x3, y3⟩
          case measure => simp [intOf]; omega

    · obtain rfl : k = n := by omega
      have hlt' : ¬ (k : Int) < (k : Int) := by omega
      go_wp2_with fail
      go_ret
      exact ⟨by rw [HO.out]; rfl, hb⟩
set_option maxRecDepth 100000 in
set_option maxHeartbeats 6400000 in
theorem rsize_any (z : ByteArray) (A : Option Addr) (n c : Nat) (l : List P2) (w : World) (hz : z.size ≤ maxLen) (hR : Pts w w.heap.size A n l) (hm : n ≤ maxLen) :
    Calls Try.prog 30 #[arV z A n c] w fun e w' => e = .returned (.int .i64 (szV z l)) ∧ Below w.heap.size w w' := by
  have i1 := (BI.start w).alloc (.cells (arA z A n c) 34)
  have x1 := Blk.new w 34 (arA z A n c)
  have hck := racheck_any z A n c w.heap.size l _ hz (hR.below i1.b) i1.b.size hm
  cases ha : arOk z l
  · have hv2 : (arE z l != 0) = true := by rw [arE_no ha]; rfl
    have hE := Lib.hid (show szV z l = 0 by unfold szV; rw [ha]; rfl)
    clear ha
    go_enter Try.func30, Try.ntmps30
    go_wp2_with (first | refine wpList_row_g rfl 34 _ rfl _ rfl _ _ _ _ x1 Try.underlying34 rfl (by kernel_rfl) ?_)
    refine hck.mono ?_; rintro e w2 ⟨rfl, hb2⟩
    have i2 := i1.call hb2
    go_wp2_with fail
    go_ret
    exact ⟨by rw [hE.out]; rfl, i2⟩
  have hv2 : (arE z l != 0) = false := by rw [arE_yes ha]; rfl
  have hll := hR.1
  have hn3 : 3 ≤ n ∧ n ≤ 1024 := by
    have q1 := (ar_iff.1 ha).2.1
    omega
  obtain ⟨ad, rfl, -⟩ := hR.row (k := 0) (by omega) (by omega)
  have hE := Lib.hid (show szV z l = szK (sidesK l n) by unfold szV; rw [if_pos ha, ← hll])
  generalize szV z l = SV at *
  clear ha
  go_enter Try.func30, Try.ntmps30
  go_wp2_with (first | refine wpList_row_g rfl 34 _ rfl _ rfl _ _ _ _ x1 Try.underlying34 rfl (by kernel_rfl) ?_)
  refine hck.mono ?_; rintro e w3 ⟨rfl, hb3⟩
  have i3 := i1.call hb3
  have x3 := x1.below hb3 x1.lt
  clear i1 x1 hb3 hck
  have d1 : w3.cell? ⟨w.heap.size, 1, none⟩ = some (.slice (some ad) n c) := x3.cell 1
  go_wp2_with fail
  go_loopw [4, 17] (fun o i w' => ∃ k : Nat, i = .int .i64 k ∧ k ≤ n ∧ o = .int .i64 (szK (sidesK l k)) ∧ BI w w' ∧ Blk w' w.heap.size 34 (arA z (some ad) n c)) (fun _ i _ => n - (intOf i).toNat)
  case atStart => exact ⟨0, rfl, Nat.zero_le _, rfl, i3, x3⟩
  case round =>
    clear i3 d1 x3
    obtain ⟨k, rfl, hk, rfl, hb, hx⟩ := hrel
    by_cases hlt : k < n
    · skip
      have hnxt := nx_mod (l := l) hll hlt rfl
      obtain ⟨m, hmm⟩ : ∃ m, nx l k = m := ⟨_, rfl⟩
      rw [hmm] at hnxt
      obtain ⟨hmn, hrem⟩ := hnxt
      obtain ⟨q1, hq1⟩ : ∃ q, pt_ l k = q := ⟨_, rfl⟩
      obtain ⟨q2, hq2⟩ : ∃ q, pt_ l m = q := ⟨_, rfl⟩
      have hlt' : (k : Int) < (n : Int) := by omega
      have hmI : (m : Int) < (n : Int) := by omega
      have hn0 : ¬ n = 0 := by omega
      have hn00 : ¬ (n : Int) = 0 := by omega
      have hw1 : IntKind.i64.wrap ((k : Int) + 1) = (k : Int) + 1 := by simp [IntKind.wrap, IntKind.bits, IntKind.signed]; omega
      have hw2 : IntKind.i64.wrap (m : Int) = (m : Int) := by simp [IntKind.wrap, IntKind.bits, IntKind.signed]; omega
      have hrow : Row wr w.heap.size (ad.add (k * 2)) q1.A := by
        obtain ⟨ad', e, hr⟩ := (hR.below hb.b).row (k := k) hlt (by omega)
        obtain rfl := Option.some.inj e
        rwa [pt_eq, hq1] at hr
      have HT := Lib.hid (show szK (sidesK l (k + 1)) = wrap64 (szK (sidesK l k) + csS (q1, q2)) by rw [sidesK_succ, szK_snoc, hmm, hq1, hq2])
      clear hmm hq1
      generalize szK (sidesK l k) = S0 at *
      have hb1 := hb.alloc (.cells q1.A 23)
      have u1 := Blk.new wr 23 q1.A
      have hx1 := hx.alloc (.cells q1.A 23)
      clear hb hx
      go_wp2_with (first | refine wpList_at_g rfl 23 _ rfl w.heap.size _ q1.A rfl _ hrow Try.underlying23 rfl (by kernel_rfl) ?_ | refine wpList_store_new rfl 23 _ _ rfl rfl wr.heap.size q1.A rfl rfl _ #[.int .i64 0, .int .i64 0] wr rfl rfl rfl (by kernel_rfl) (by kernel_rfl) ?_)
      obtain ⟨W1, hW1⟩ : ∃ W1 : World, W1 = wr.alloc (.cells q1.A 23) := ⟨_, rfl⟩
      rw [← hW1] at hb1 u1 hx1
      rw [← hW1]
      clear hW1 hrow
      have x0 : Blk W1.drew w.heap.size 34 (arA z (some ad) n c) := hx1
      have u0 : Blk W1.drew wr.heap.size 23 q1.A := u1
      have iv0 : BI w W1.drew := hb1.drew
      clear hx1 u1 hb1
      refine wp_region_held_drew (S := fun w' => Blk w' w.heap.size 34 (arA z (some ad) n c) ∧ w'.cell? ⟨w.heap.size, 1, none⟩ = some (.slice (some ad) n c) ∧ ldT 23 (.pointer (some (ad.add (m * 2)))) w' = some q2.A) (by kernel_rfl) (sd_of hq2 hmn x0 (hR.below iv0.b)) (fun hHeld => ?_)
      refine wpAnyH_take (i := 0) (oi := { dst := some 22, op := Op.fieldAddr 34 (Operand.tmp 1) 1, type := 0, pos := "ref.go:75", after := #[], guard := none }) (v := ?_) rfl (by kernel_rfl) (by kernel_rfl) (by kernel_rfl) (fun _ _ _ h => h) (Or.inl ⟨by rfl, ?_⟩) hHeld ?_
      rotate_left
      · intro w hSw
        try dsimp only at hSw
        go_simp
        try with_reducible rfl
      try simp only [Act.put, List.setIfInBounds_toArray, List.set_cons_zero, List.set_cons_succ]
      refine wpAnyH_take (i := 1) (oi := { dst := some 23, op := Op.load 32 (Operand.tmp 22), type := 32, pos := "ref.go:75", after := #[{ on := 0, ground := Ground.data }], guard := none }) (v := ?_) rfl (by kernel_rfl) (by kernel_rfl) (by kernel_rfl) (fun _ _ _ h => h) (Or.inl ⟨by rfl, ?_⟩) hHeld ?_
      rotate_left
      · intro w hSw
        try dsimp only at hSw
        go_simp
        try with_reducible rfl
      try simp only [Act.put, List.setIfInBounds_toArray, List.set_cons_zero, List.set_cons_succ]
      refine wpAnyH_take (i := 2) (oi := { dst := some 24, op := Op.move (Operand.tmp 5), type := 3, pos := "ref.go:75", after := #[], guard := none }) (v := ?_) rfl (by kernel_rfl) (by kernel_rfl) (by kernel_rfl) (fun _ _ _ h => h) (Or.inl ⟨by rfl, ?_⟩) hHeld ?_
      rotate_left
      · intro w hSw
        try dsimp only at hSw
        go_simp
        try with_reducible rfl
      try simp only [Act.put, List.setIfInBounds_toArray, List.set_cons_zero, List.set_cons_succ]
      refine wpAnyH_take (i := 3) (oi := { dst := some 25, op := Op.binOp BinOp.add 3 (Operand.tmp 24) (Operand.const (Value.int IntKind.i64 1)) 3, type := 3, pos := "ref.go:75", after := #[{ on := 2, ground := Ground.data }], guard := none }) (v := ?_) rfl (by kernel_rfl) (by kernel_rfl) (by kernel_rfl) (fun _ _ _ h => h) (Or.inl ⟨by rfl, ?_⟩) hHeld ?_
      rotate_left
      · intro w hSw
        try dsimp only at hSw
        go_simp
        try with_reducible rfl
      try simp only [Act.put, List.setIfInBounds_toArray, List.set_cons_zero, List.set_cons_succ]
      refine wpAnyH_take (i := 4) (oi := { dst := some 26, op := Op.move (Operand.tmp 3), type := 3, pos := "ref.go:75", after := #[], guard := none }) (v := ?_) rfl (by kernel_rfl) (by kernel_rfl) (by kernel_rfl) (fun _ _ _ h => h) (Or.inl ⟨by rfl, ?_⟩) hHeld ?_
      rotate_left
      · intro w hSw
        try dsimp only at hSw
        go_simp
        try with_reducible rfl
      try simp only [Act.put, List.setIfInBounds_toArray, List.set_cons_zero, List.set_cons_succ]
      refine wpAnyH_take (i := 5) (oi := { dst := some 27, op := Op.binOp BinOp.rem 3 (Operand.tmp 25) (Operand.tmp 26) 3, type := 3, pos := "ref.go:75", after := #[{ on := 3, ground := Ground.data }, { on := 4, ground := Ground.data }], guard := none }) (v := ?_) rfl (by kernel_rfl) (by kernel_rfl) (by kernel_rfl) (fun _ _ _ h => h) (Or.inl ⟨by rfl, ?_⟩) hHeld ?_
      rotate_left
      · intro w hSw
        try dsimp only at hSw
        go_simp
        try with_reducible rfl
      try simp only [Act.put, List.setIfInBounds_toArray, List.set_cons_zero, List.set_cons_succ]
      refine wpAnyH_take (i := 6) (oi := { dst := some 28, op := Op.indexAddr 32 (Operand.tmp 23) (Operand.tmp 27), type := 0, pos := "ref.go:75", after := #[{ on := 1, ground := Ground.data }, { on := 5, ground := Ground.data }], guard := none }) (v := ?_) rfl (by kernel_rfl) (by kernel_rfl) (by kernel_rfl) (fun _ _ _ h => h) (Or.inl ⟨by rfl, ?_⟩) hHeld ?_
      rotate_left
      · intro w hSw
        try dsimp only at hSw
        go_simp
        try with_reducible rfl
      try simp only [Act.put, List.setIfInBounds_toArray, List.set_cons_zero, List.set_cons_succ]
      refine wpAnyH_take (i := 7) (oi := { dst := some 29, op := Op.load 23 (Operand.tmp 28), type := 23, pos := "ref.go:75", after := #[{ on := 6, ground := Ground.data }], guard := none }) (v := ?_) rfl (by kernel_rfl) (by kernel_rfl) (by kernel_rfl) (fun _ _ _ h => h) (Or.inl ⟨by rfl, ?_⟩) hHeld ?_
      rotate_left
      · intro w hSw
        try dsimp only at hSw
        go_simp
        try with_reducible rfl
      try simp only [Act.put, List.setIfInBounds_toArray, List.set_cons_zero, List.set_cons_succ]
      refine wpAnyH_ready (rs := [8]) (by kernel_rfl) (by simp) ?_
      refine AllReadyH.cons (o := { dst := some 7, op := Op.alloc 23, type := 0, pos := "ref.go:75", after := #[], guard := none }) rfl (fun K hK => ?_) (AllReadyH.nil)
      go_simp
      have v_1 := Blk.new W1.drew 23 #[.int .i64 0, .int .i64 0]
      have iv_1 := iv0.alloc (.cells #[.int .i64 0, .int .i64 0] 23)
      have x_1 := x0.alloc (.cells #[.int .i64 0, .int .i64 0] 23)
      have u_1 := u0.alloc (.cells #[.int .i64 0, .int .i64 0] 23)
      refine hK.out _ _ (sd_of hq2 hmn x_1 (hR.below iv_1.b)) (fun hHeld2 => ?_)
      clear hK K hHeld; have hHeld := hHeld2; clear hHeld2
      try simp only [Act.put, List.setIfInBounds_toArray, List.set_cons_zero, List.set_cons_succ]
      refine wpAnyH_ready (rs := [9]) (by kernel_rfl) (by simp) ?_
      refine AllReadyH.cons (o := { dst := none, op := Op.store 23 (Operand.tmp 7) (Operand.tmp 29), type := 0, pos := "ref.go:75", after := #[{ on := 8, ground := Ground.data }, { on := 7, ground := Ground.data }, { on := 0, ground := Ground.phase }, { on := 1, ground := Ground.phase }, { on := 2, ground := Ground.phase }, { on := 3, ground := Ground.phase }, { on := 4, ground := Ground.phase }, { on := 5, ground := Ground.phase }, { on := 6, ground := Ground.phase }, { on := 7, ground := Ground.phase }, { on := 8, ground := Ground.phase }], guard := none }) rfl (fun K hK => ?_) (AllReadyH.nil)
      refine wp_store_g 23 (.tmp 7) (.tmp 29) rfl rfl _ 0 q2.A q2.A rfl rfl _ _ v_1 (by show 0 + 2 ≤ 2; decide) (by kernel_rfl) (by kernel_rfl) (by kernel_rfl) ?_
      have v_2 := Blk.row v_1 q2.A
      have iv_2 := bi_row iv_1 (iv0.b.size) q2.A
      have x_2 := Blk.rowFar x_1 (Nat.ne_of_lt x0.lt) q2.A
      have u_2 := Blk.rowFar u_1 (Nat.ne_of_lt u0.lt) q2.A
      refine hK.out _ _ (sd_of hq2 hmn x_2 (hR.below iv_2.b)) (fun hHeld2 => ?_)
      clear hK K hHeld; have hHeld := hHeld2; clear hHeld2
      try simp only [Act.put, List.setIfInBounds_toArray, List.set_cons_zero, List.set_cons_succ]
      refine wpAnyH_done (by kernel_rfl) ?_ _
      clear hHeld
      obtain ⟨W2, hW2⟩ : ∃ W2 : World, W2 = (W1.alloc (.cells #[.int .i64 0, .int .i64 0] 23)).drew.setRow W1.heap.size q2.A := ⟨_, rfl⟩
      obtain ⟨ud, hud⟩ : ∃ ud, ud = W1.heap.size := ⟨_, rfl⟩
      have x2 : Blk W2 w.heap.size 34 (arA z (some ad) n c) := by rw [hW2]; exact x_2
      have u2 : Blk W2 wr.heap.size 23 q1.A := by rw [hW2]; exact u_2
      have v2 : Blk W2 ud 23 q2.A := by rw [hW2, hud]; exact v_2
      have j2 : BI w W2 := by rw [hW2]; exact iv_2
      rw [← hW2, ← hud]
      clear hW2 hud x0 u0 iv0 iv_1 iv_2 u_1 u_2 v_1 v_2 x_1 x_2
      have c0 : W2.cell? ⟨wr.heap.size, 0, none⟩ = some (.int .i64 q1.la) := u2.cell 0
      have c1 : W2.cell? ⟨wr.heap.size, 1, none⟩ = some (.int .i64 q1.lo) := u2.cell 1
      have e0 : W2.cell? ⟨ud, 0, none⟩ = some (.int .i64 q2.la) := v2.cell 0
      have e1 : W2.cell? ⟨ud, 1, none⟩ = some (.int .i64 q2.lo) := v2.cell 1
      go_wp2_with fail
      go_roundw
      case rel => exact ⟨k + 1, by go_num, by omega, by rw [HT.out]; rfl, j2, x2⟩
      case measure => simp [intOf]; omega
    · obtain rfl : k = n := by omega
      have hlt' : ¬ (k : Int) < (k : Int) := by omega
      go_wp2_with fail
      go_ret
      exact ⟨by rw [hE.out]; rfl, hb⟩
set_option maxRecDepth 20000 in
set_option maxHeartbeats 6400000 in
theorem rzone_any (A : Option Addr) (n c : Nat) (L : List Ae) (p : P2) (w : World) (hR : Ars w w.heap.size A n L) (hm : n ≤ maxLen) :
    Calls Try.prog 22 #[.slice A n c, p.V] w fun e w' => e = .returned (.tuple #[.string (zoS L p), .int .i64 (zoE L p)]) ∧ Below w.heap.size w w' := by
  have hll := hR.len
  unfold maxLen at hm
  have i1 := (BI.start w).alloc (.cells p.A 23)
  have y1 := Blk.new w 23 p.A
  cases hp : p.ok
  · obtain ⟨z1, z2⟩ := zo_no (L := L) (p := p) (by rw [hp]; rfl)
    have hv : (chkV p != 0) = true := by unfold chkV; rw [hp]; rfl
    rw [z1, z2]
    clear hp z1 z2
    go_enter Try.func22, Try.ntmps22
    go_wp2_with (first | refine wpList_row_g rfl 23 _ rfl _ rfl _ _ _ _ y1 Try.underlying23 rfl (by kernel_rfl) ?_)
    refine (rcheck_any p _).mono ?_; rintro e w2 ⟨rfl, hb2⟩
    have i2 := i1.call hb2
    go_wp2_with fail
    go_ret2
    exact ⟨rfl, i2⟩
  have hv : (chkV p != 0) = false := by unfold chkV; rw [hp]; rfl
  have HPOK := Lib.hid hp
  have HNo := Lib.hid (fun (h : alB L = false) => zo_no (L := L) (p := p) (by rw [hp, h]; rfl))
  have HNone := Lib.hid (fun (h : alB L = true) h2 => zo_none (L := L) (p := p) (by rw [hp, h]; rfl) h2)
  have HSome := Lib.hid (fun (h : alB L = true) (a : Ae) h2 => zo_some (L := L) (p := p) (a := a) (by rw [hp, h]; rfl) h2)
  clear hp
  generalize zoS L p = ZS at *
  generalize zoE L p = ZE at *
  go_enter Try.func22, Try.ntmps22
  go_wp2_with (first | refine wpList_row_g rfl 23 _ rfl _ rfl _ _ _ _ y1 Try.underlying23 rfl (by kernel_rfl) ?_)
  refine (rcheck_any p _).mono ?_; rintro e w2 ⟨rfl, hb2⟩
  have i2 := i1.call hb2
  have y2 := y1.below hb2 y1.lt
  clear i1 y1 hb2
  go_wp2_with fail
  go_loopw [15] (fun i w' => ∃ k : Nat, i = .int .i64 k ∧ k ≤ n ∧ alB (L.take k) = true ∧ Blk w' w.heap.size 23 p.A ∧ BI w w') (fun i _ => n - (intOf i).toNat)
  case atStart => exact ⟨0, rfl, Nat.zero_le _, by simp [alB], y2, i2⟩
  case round =>
    clear y2 i2
    obtain ⟨k, rfl, hk, hall, hy, hb⟩ := hrel
    by_cases hlt : k < n
    · have hlt' : (k : Int) < (n : Int) := by omega
      obtain ⟨ad, rfl, hrow⟩ := (hR.below hb.b).row hlt
      have hbd := (hR.p _ (ae_mem (show k < L.length by omega)))
      have HT := Lib.hid (al_take (L := L) (k := k) (by omega))
      have HA := Lib.hid hall
      have HN := Lib.hid (fun h => HNo.out (al_no (L := L) (k := k) (by omega) h))
      clear hall
      generalize ae_ L k = a at *
      have hb1 := hb.alloc (.cells a.C 34)
      have x1 := Blk.new wr 34 a.C
      have hy1 := hy.alloc (.cells a.C 34)
      have hck := racheck_any a.z a.A a.n a.c w.heap.size a.l (wr.alloc (.cells a.C 34)) hbd.2.1 (hbd.1.below hb1.b) hb1.b.size hbd.2.2
      go_wp2_with (first | refine wpList_at_g rfl 34 _ rfl w.heap.size _ a.C rfl _ hrow Try.underlying34 rfl (by kernel_rfl) ?_ | refine wpList_store_new rfl 34 _ _ rfl rfl wr.heap.size a.C rfl rfl _ #[.string ByteArray.empty, .slice none 0 0] wr rfl rfl rfl (by kernel_rfl) (by kernel_rfl) ?_ | refine wpList_row_g rfl 34 _ rfl _ rfl _ _ _ _ x1 Try.underlying34 rfl (by kernel_rfl) ?_)
      refine hck.mono ?_; rintro e w3 ⟨rfl, hb3⟩
      have i3 := hb1.call hb3
      have y3 := hy1.below hb3 hy1.lt
      clear hb1 x1 hy1 hck hb3 hrow
      cases ha : arOk a.z a.l
      · have hv2 : (arE a.z a.l != 0) = true := by rw [arE_no ha]; rfl
        obtain ⟨e1, e2⟩ := HN.out ha
        have E1 := Lib.hid e1; have E2 := Lib.hid e2
        clear ha e1 e2
        go_wp2_with fail
        go_ret2
        exact ⟨by rw [E1.out, E2.out]; rfl, i3⟩
      · have hv2 : (arE a.z a.l != 0) = false := by rw [arE_yes ha]; rfl
        have HA2 := Lib.hid (show alB (L.take (k + 1)) = true by rw [HT.out, HA.out, ha]; rfl)
        clear ha
        go_wp2_with fail
        go_roundw
        case rel => exact ⟨k + 1, by go_num, by omega, HA2.out, y3, i3⟩
        case measure => simp [intOf]; omega
    · obtain rfl : k = n := by omega
      have hlt' : ¬ (k : Int) < (k : Int) := by omega
      rw [List.take_of_length_le (by omega)] at hall
      have HAL := Lib.hid hall
      clear hall
      go_wp2_with fail
      go_loopw [25] (fun i w' => ∃ j : Nat, i = .int .i64 j ∧ j ≤ k ∧ fiA (L.take j) p = none ∧ Blk w' w.heap.size 23 p.A ∧ BI w w') (fun i _ => k - (intOf i).toNat)
      case atStart => exact ⟨0, rfl, Nat.zero_le _, by simp [fiA], hy, hb⟩
      case round =>
        clear hy hb
        obtain ⟨j, rfl, hj, hf, hy, hb⟩ := hrel
        by_cases hlt : j < k
        · have hlt' : (j : Int) < (k : Int) := by omega
          obtain ⟨ad, rfl, hrow⟩ := (hR.below hb.b).row hlt
          have hbd := (hR.p _ (ae_mem (show j < L.length by omega)))
          have hok : arOk (ae_ L j).z (ae_ L j).l = true := by
            have := HAL.out; unfold alB at this
            exact List.all_eq_true.1 this _ (ae_mem (by omega))
          have hFT := fi_take (L := L) (p := p) (k := j) (by omega) hf
          have HF1 := Lib.hid hFT.1; have HF2 := Lib.hid hFT.2
          clear hFT hf
          generalize ae_ L j = a at *
          have hn : a.n ≤ 1100 := by have := (ar_iff.1 hok).2.1; have := hbd.1.1; omega
          have hb1 := hb.alloc (.cells a.C 34)
          have x1 := Blk.new wr 34 a.C
          have hy1 := hy.alloc (.cells a.C 34)
          have hin := rInside_any a.z a.A a.n a.c a.l p (wr.alloc (.cells a.C 34)) hbd.2.1 (Pts.more (hbd.1.below hb1.b) hb1.b.size) hbd.2.2
          rw [show rtB a.z a.l p = true by unfold rtB; rw [HPOK.out, hok]; rfl, Bool.true_and] at hin
          clear hok
          cases hi : inB a.l p
          · rw [hi] at hin
            have HF := Lib.hid (HF1.out hi)
            clear hi HF1 HF2
            go_wp2_with (first | refine wpList_at_g rfl 34 _ rfl w.heap.size _ a.C rfl _ hrow Try.underlying34 rfl (by kernel_rfl) ?_ | refine wpList_store_new rfl 34 _ _ rfl rfl wr.heap.size a.C rfl rfl _ #[.string ByteArray.empty, .slice none 0 0] wr rfl rfl rfl (by kernel_rfl) (by kernel_rfl) ?_ | refine wpList_row_g rfl 34 _ rfl _ rfl _ _ _ _ x1 Try.underlying34 rfl (by kernel_rfl) ?_ | refine wpList_row_g rfl 23 _ rfl _ rfl _ _ _ _ hy1 Try.underlying23 rfl (by kernel_rfl) ?_)
            refine hin.mono ?_; rintro e w3 ⟨rfl, hb3⟩
            have i3 := hb1.call hb3
            have y3 := hy1.below hb3 hy1.lt
            clear hb1 x1 hy1 hin hb3 hrow
            go_wp2_with fail
            go_roundw
            case rel => exact ⟨j + 1, by go_num, by omega, HF.out, y3, i3⟩
            case measure => simp [intOf]; omega
          · rw [hi] at hin
            obtain ⟨e1, e2⟩ := HSome.out HAL.out a (HF2.out hi)
            have E1 := Lib.hid e1; have E2 := Lib.hid e2
            clear hi HF1 HF2 e1 e2
            go_wp2_with (first | refine wpList_at_g rfl 34 _ rfl w.heap.size _ a.C rfl _ hrow Try.underlying34 rfl (by kernel_rfl) ?_ | refine wpList_store_new rfl 34 _ _ rfl rfl wr.heap.size a.C rfl rfl _ #[.string ByteArray.empty, .slice none 0 0] wr rfl rfl rfl (by kernel_rfl) (by kernel_rfl) ?_ | refine wpList_row_g rfl 34 _ rfl _ rfl _ _ _ _ x1 Try.underlying34 rfl (by kernel_rfl) ?_ | refine wpList_row_g rfl 23 _ rfl _ rfl _ _ _ _ hy1 Try.underlying23 rfl (by kernel_rfl) ?_)
            refine hin.mono ?_; rintro e w3 ⟨rfl, hb3⟩
            have i3 := hb1.call hb3
            have d0 : w3.cell? ⟨wr.heap.size, 0, none⟩ = some (.string a.z) := (x1.below hb3 x1.lt).cell 0
            go_wp2_with fail
            go_ret2
            exact ⟨by rw [E1.out, E2.out]; rfl, i3⟩
        · obtain rfl : j = k := by omega
          have hlt' : ¬ (j : Int) < (j : Int) := by omega
          rw [List.take_of_length_le (by omega)] at hf
          obtain ⟨e1, e2⟩ := HNone.out HAL.out hf
          have E1 := Lib.hid e1; have E2 := Lib.hid e2
          clear hf e1 e2
          go_wp2_with fail
          go_ret2
          exact ⟨by rw [E1.out, E2.out]; rfl, hb⟩
end Go.Proofs.Ytoiccljmdplfgaa.Ar
