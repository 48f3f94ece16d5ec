/-
  A PLAN's YEAR: walked.
-/
import Derived.Test.YtefcjccapekjdaaDoorSqC
import Derived.Test.YtefcjccapekjdaaDoorLd
import Derived.StillTailTactics
import Derived.BigQuiet
namespace Go.Proofs.YtefcjccapekjdaaDoor.Sq
open Go.ChangeShapes Go.WideShapes Go.ChangeAt Go.RowKit
open Go.Proofs.YtefcjccapekjdaaDoor
open Go.Proofs.YtefcjccapekjdaaDoor.Wd
open Go.Proofs.YtefcjccapekjdaaDoor.Rec
open Go.Proofs.YtefcjccapekjdaaDoor.Yr
open Go.Proofs.YtefcjccapekjdaaDoor.Clk (yrV yrE)
open Go.Proofs.YtefcjccapekjdaaDoor.Civ (Tab Inv)
set_option linter.unusedVariables false
open Go.Proofs.YtefcjccapekjdaaDoor.Tb
open Go.Proofs.YtefcjccapekjdaaDoor.Ld
set_option linter.unusedSimpArgs false
theorem wp_store_g {P : Program} {o : Oper} {a : Act} {w : World} {K : Act → World → Prop} {Q : Exit → Act → World → Prop} (ty : TypeId) (x y : Operand) (ho : o.op = .store ty x y) (hd : o.dst = none)
    (g k : Nat) (cells new : Array Value) (hx : a.eval x = .pointer (some ⟨g, k, none⟩)) (hy : a.eval y = .agg cells) (t : TypeId) (old : Array Value) (hg : Blk w g t old)
    (hl : k + cells.size ≤ old.size) (hi : (P.info? ty).map (·.size) = some cells.size) (h1 : cells.all (·.oneCell') = true) (hn : (old.toList.take k ++ cells.toList ++ old.toList.drop (k + cells.size)).toArray = new)
    (h : K (a.put o.dst undef) (w.setRow g new)) : o.wp P a w K Q := by
  have := run_storeCells_at (P := P) g k t cells.toList 0 old w hg (by simpa using hl) (fun v hv => (Array.all_eq_true_iff_forall_mem.1 h1) v (by simpa using hv))
  simp only [Nat.add_zero, Array.length_toList] at this
  rw [hn] at this
  have hs : (storeVar ty ⟨g, k, none⟩ (.agg cells)).run P w = .ok () (w.setRow g new) := by
    cases hq : P.info? ty with
    | none => simp [hq] at hi
    | some i =>
      have hsz : cells.size = i.size := by simp [hq] at hi; omega
      simp [storeVar, sizeOf, typeInfo, hq, Value.cells, hsz, this]
  unfold Oper.wp execOp
  simp only [ho, hx, hy, Instr.storeAt, Instr.sureAddr, Sem.run_bind, Sem.run_pure, Result.andThen_ok, hs]
  exact h
attribute [local go_sem ↓] ldR_sem
attribute [local go_sem] ldSem_run
theorem cy_mk {w W : World} {P : Int} {ad bd : Addr} {n c n2 c2 k : Nat} {a : Rc} {z : Int} (iv : Inv w W) (x : Blk W w.heap.size 75 #[.int .i64 P, .slice (some ad) n c, .slice (some bd) n2 c2])
    (hrow : ∀ W, Below w.heap.size w W → Row W w.heap.size (ad.add (k * 19)) a.A) (hcel : ∀ W, Below w.heap.size w W → W.cell? (bd.add k) = some (.int .u8 z)) :
    (fun w' => w'.cell? ⟨w.heap.size, 0, none⟩ = some (.int .i64 P) ∧ w'.cell? ⟨w.heap.size, 1, none⟩ = some (.slice (some ad) n c) ∧ w'.cell? ⟨w.heap.size, 2, none⟩ = some (.slice (some bd) n2 c2) ∧ ldT 26 (.pointer (some (ad.add (k * 19)))) w' = some a.A ∧ w'.cell? (bd.add k) = some (.int .u8 z)) W := ⟨x.cell 0, x.cell 1, x.cell 2, ld_row (hrow _ iv.2) (by kernel_rfl), hcel _ iv.2⟩
theorem res_ctt {fn : Func} {p q q2 : Tmp} {T : TypeId} (h : fn.results = #[.cell p T, .tmp q, .tmp q2]) (tmps : Array Value) (w : World) (g : Nat) (t : TypeId) (cs : Array Value) (v v2 : Value) (d : TypeDesc)
    (hp : tmps.getD p undef = .pointer (some ⟨g, 0, none⟩)) (hq : tmps.getD q undef = v) (hq2 : tmps.getD q2 undef = v2) (hg : Blk w g t cs)
    (hu : Tryd.prog.underlying T = some d) (hd : (match d with | .struct _ | .array _ _ => true | _ => false) = true) (hi : (Tryd.prog.info? T).map (·.size) = some cs.size) :
    (results fn tmps).run Tryd.prog w = .ok (.tuple #[.agg cs, v, v2]) w := by
  have hp' : tmps[p]?.getD undef = .pointer (some ⟨g, 0, none⟩) := by simpa using hp
  have hq' : tmps[q]?.getD undef = v := by simpa using hq
  have hq2' : tmps[q2]?.getD undef = v2 := by simpa using hq2
  have hl : (loadVar T ⟨g, 0, none⟩).run Tryd.prog w = .ok (.agg cs) w := run_loadVar_row w g t T cs (0, 0) d hg hu (by cases d <;> first | rfl | exact hd) hi
  simp [results, h, hp', hq', hq2', asAddr, hl]
def cyE (P : Int) (l : List Rc) (q : List Int) (y : Int) : Int := if plOk P l q = true then (if P ≤ y ∧ y < P + (l.length : Int) then 0 else 3) else 2
def cyR (P : Int) (l : List Rc) (q : List Int) (y : Int) : Rc := if cyE P l q y = 0 then ra_ l (y - P).toNat else Rc.nil
def cyW (P : Int) (l : List Rc) (q : List Int) (y : Int) : Int := if cyE P l q y = 0 then q.getD (y - P).toNat 0 else 0
theorem cy_cases (P : Int) (l : List Rc) (q : List Int) (y : Int) :
    (plE P l q = 2 ∧ cyE P l q y = 2 ∧ cyR P l q y = Rc.nil ∧ cyW P l q y = 0) ∨
    (plE P l q = 0 ∧ (1601 ≤ P ∧ 1 ≤ l.length ∧ l.length ≤ 400 ∧ q.length = l.length ∧ P ≤ 10000 - (l.length : Int)) ∧
      ((¬ (P ≤ y ∧ y < P + (l.length : Int)) ∧ cyE P l q y = 3 ∧ cyR P l q y = Rc.nil ∧ cyW P l q y = 0) ∨
       (P ≤ y ∧ y < P + (l.length : Int) ∧ cyE P l q y = 0 ∧ cyR P l q y = ra_ l (y - P).toNat ∧ cyW P l q y = q.getD (y - P).toNat 0))) := by
  unfold plE cyR cyW cyE
  cases e : plOk P l q with
  | false => left; exact ⟨rfl, rfl, rfl, rfl⟩
  | true =>
    right
    refine ⟨rfl, (pl_iff.1 e).1, ?_⟩
    by_cases h : P ≤ y ∧ y < P + (l.length : Int)
    · right; rw [if_pos rfl, if_pos h]; exact ⟨h.1, h.2, rfl, rfl, rfl⟩
    · left; rw [if_pos rfl, if_neg h]; exact ⟨h, rfl, rfl, rfl⟩
set_option maxRecDepth 100000 in
set_option maxHeartbeats 6400000 in
theorem cyear_any (P : Int) (A A2 : Option Addr) (n c n2 c2 : Nat) (l : List Rc) (q : List Int) (y : Int) (w : World) (hT : Tab w) (hp : PlanR w w.heap.size P A A2 n n2 l q) :
    Calls Tryd.prog 62 #[plV P A A2 n c n2 c2, .int .i64 y] w fun e w' => e = .returned (.tuple #[(cyR P l q y).V, .int .u8 (cyW P l q y), .int .i64 (cyE P l q y)]) ∧ Below w.heap.size w w' := by
  have i0 := Inv.start hT
  have i1 := (i0.alloc (.cells #[.int .i64 P, .slice A n c, .slice A2 n2 c2] 75)).alloc (.cells z19 26)
  have x1 := (Blk.new w 75 #[.int .i64 P, .slice A n c, .slice A2 n2 c2]).alloc (.cells z19 26)
  have z1 := blk_at (w.alloc (.cells #[.int .i64 P, .slice A n c, .slice A2 n2 c2] 75)) 26 z19 (sz1 w _ rfl)
  obtain ⟨hl, hq⟩ := hp.len
  have hpp := hp.p; have hm := hp.m; have hm2 := hp.m2
  unfold maxLen at hm hm2
  have hck := fun W (iv : Inv w W) => check_any P A A2 n c n2 c2 l q W iv.1 ((hp.below iv.2).more iv.2.size)
  rcases cy_cases P l q y with ⟨h0, e1, e2, e3⟩ | ⟨h0, ⟨k1, k2, k3, k4, k5⟩, hyy⟩
  · rw [h0] at hck
    rw [e1, e2, e3]
    clear h0 e1 e2 e3
    go_enter Tryd.func62, Tryd.ntmps62
    go_wp2_with (refine wpList_row_g rfl 75 _ rfl _ rfl _ _ _ _ x1 Tryd.underlying75 rfl (by kernel_rfl) ?_)
    refine (hck _ i1).mono ?_; rintro e w2 ⟨rfl, hb2⟩
    have i2 := i1.call hb2
    have z2 := z1.below hb2 z1.lt
    clear i1 x1 z1 hb2
    go_wp2_with (refine wpList_store_g rfl 26 _ _ rfl rfl _ 0 z19 z19 rfl rfl _ _ z2 (by show 0 + 19 ≤ 19; decide) (by kernel_rfl) (by kernel_rfl) (by kernel_rfl) ?_)
    exact bodyPost_ret (res_ctt rfl _ _ _ _ _ _ _ _ rfl rfl rfl (Blk.row z2 _) Tryd.underlying26 rfl (by kernel_rfl)) rfl ⟨rfl, below_row i2.2 (Nat.le_add_right _ 1) _⟩
  · rw [h0] at hck
    clear h0
    rcases hyy with ⟨ho, e1, e2, e3⟩ | ⟨y1, y2, e1, e2, e3⟩
    · rw [e1, e2, e3]
      clear e1 e2 e3
      rw [hl] at ho
      have hs : y < P ∨ (P ≤ y ∧ P + (n : Int) - 1 < y) := by omega
      rcases hs with y1 | ⟨y1, y2⟩
      all_goals
        go_enter Tryd.func62, Tryd.ntmps62
        go_wp2_with (refine wpList_row_g rfl 75 _ rfl _ rfl _ _ _ _ x1 Tryd.underlying75 rfl (by kernel_rfl) ?_)
        refine (hck _ i1).mono ?_; rintro e w2 ⟨rfl, hb2⟩
        have i2 := i1.call hb2
        have x2 := x1.below hb2 x1.lt
        have z2 := z1.below hb2 z1.lt
        have d0 := x2.cell 0; have d1 := x2.cell 1
        simp at d0 d1
        clear i1 x1 z1 hb2
        go_wp2_with (refine wpList_store_g rfl 26 _ _ rfl rfl _ 0 z19 z19 rfl rfl _ _ z2 (by show 0 + 19 ≤ 19; decide) (by kernel_rfl) (by kernel_rfl) (by kernel_rfl) ?_)
        exact bodyPost_ret (res_ctt rfl _ _ _ _ _ _ _ _ rfl rfl rfl (Blk.row z2 _) Tryd.underlying26 rfl (by kernel_rfl)) rfl ⟨rfl, below_row i2.2 (Nat.le_add_right _ 1) _⟩
    · rw [e1, e2, e3]
      clear e1 e2 e3
      rw [hl] at y2 k2 k3 k4 k5
      obtain ⟨k, hk⟩ : ∃ k : Nat, y - P = (k : Int) := ⟨(y - P).toNat, by omega⟩
      have hkn : k < n := by omega
      have ek : (y - P).toNat = k := by omega
      rw [ek]
      have heq : q[k]'(by omega) = q.getD k 0 := by rw [List.getD_eq_getElem?_getD, List.getElem?_eq_getElem (by omega)]; rfl
      obtain ⟨ad, rfl, -⟩ := hp.r.row hkn (by omega)
      obtain ⟨bd, rfl, -⟩ := int_at hp.e (show k < n2 by omega) (show k < q.length by omega)
      have hrow : ∀ W, Below w.heap.size w W → Row W w.heap.size (ad.add (k * 19)) (ra_ l k).A := fun W hb => by
        obtain ⟨ad', e, r1⟩ := (hp.r.below hb).row hkn (by omega)
        obtain rfl := Option.some.inj e
        rwa [ra_eq (by omega)] at r1
      have hcel : ∀ W, Below w.heap.size w W → W.cell? (bd.add k) = some (.int .u8 (q.getD k 0)) := fun W hb => by
        obtain ⟨bd', e, r1⟩ := int_at (hp.e.below hb) (show k < n2 by omega) (show k < q.length by omega)
        obtain rfl := Option.some.inj e
        rwa [heq] at r1
      clear heq ek
      generalize ra_ l k = a at *
      generalize q.getD k 0 = z at *
      go_enter Tryd.func62, Tryd.ntmps62
      go_wp2_with (refine wpList_row_g rfl 75 _ rfl _ rfl _ _ _ _ x1 Tryd.underlying75 rfl (by kernel_rfl) ?_)
      refine (hck _ i1).mono ?_; rintro e w2 ⟨rfl, hb2⟩
      have i2 := i1.call hb2
      have x2 := x1.below hb2 x1.lt
      have z2 := z1.below hb2 z1.lt
      have d0 := x2.cell 0; have d1 := x2.cell 1
      simp at d0 d1
      have ho : ¬ P + (n : Int) - 1 < y := by omega
      clear i1 x1 z1 hb2
      go_upto_region 6 with fail
      have r1 := hrow _ i2.2
      have hc := hcel _ i2.2
      have u0 : w2.cell? ⟨w.heap.size, 0, none⟩ = some (.int .i64 P) := x2.cell 0
      have u1 : w2.cell? ⟨w.heap.size, 1, none⟩ = some (.slice (some ad) n c) := x2.cell 1
      have u2 : w2.cell? ⟨w.heap.size, 2, none⟩ = some (.slice (some bd) n2 c2) := x2.cell 2
      have hw1 : IntKind.i64.wrap (y - P) = (k : Int) := by rw [hk]; simp [IntKind.wrap, IntKind.bits, IntKind.signed]; omega
      have hw2 : IntKind.i64.wrap (k : Int) = (k : Int) := by rw [hk] at hw1; exact hw1
      have hi1 : (k : Int) < (n : Int) := by omega
      have hi2 : (k : Int) < (n2 : Int) := by omega
      have hi0 : 0 ≤ (k : Int) := by omega
      have hi3 : (k : Int).toNat = k := by omega
      clear d0 d1
      have x3 : Blk w2.drew w.heap.size 75 #[.int .i64 P, .slice (some ad) n c, .slice (some bd) n2 c2] := x2
      have z3 : Blk w2.drew (w.heap.size + 1) 26 z19 := z2
      have i3 : Inv w w2.drew := i2.drew
      clear u0 u1 u2 hc r1 x2 z2 i2
      refine wp_region_held_drew (S := fun w' => w'.cell? ⟨w.heap.size, 0, none⟩ = some (.int .i64 P) ∧ w'.cell? ⟨w.heap.size, 1, none⟩ = some (.slice (some ad) n c) ∧ w'.cell? ⟨w.heap.size, 2, none⟩ = some (.slice (some bd) n2 c2) ∧ ldT 26 (.pointer (some (ad.add (k * 19)))) w' = some a.A ∧ w'.cell? (bd.add k) = some (.int .u8 z)) (by kernel_rfl) (cy_mk i3 x3 hrow hcel) (fun hHeld => ?_)
      refine wpAnyH_take (i := 0) (oi := { dst := some 30, op := Op.fieldAddr 75 (Operand.tmp 2) 1, type := 0, pos := "compile.go:103", after := #[], guard := none }) (v := ?_) rfl (by kernel_rfl) (by kernel_rfl) (by kernel_rfl) (fun _ _ _ h => h) (Or.inl ⟨by rfl, ?_⟩) hHeld ?_
      rotate_left
      · intro w hSw
        try dsimp only at hSw
        go_simp
        try with_reducible rfl
      try simp only [Act.put, List.setIfInBounds_toArray, List.set_cons_zero, List.set_cons_succ]
      refine wpAnyH_take (i := 1) (oi := { dst := some 31, op := Op.load 38 (Operand.tmp 30), type := 38, pos := "compile.go:103", after := #[{ on := 0, ground := Ground.data }], guard := none }) (v := ?_) rfl (by kernel_rfl) (by kernel_rfl) (by kernel_rfl) (fun _ _ _ h => h) (Or.inl ⟨by rfl, ?_⟩) hHeld ?_
      rotate_left
      · intro w hSw
        try dsimp only at hSw
        go_simp
        try with_reducible rfl
      try simp only [Act.put, List.setIfInBounds_toArray, List.set_cons_zero, List.set_cons_succ]
      refine wpAnyH_take (i := 2) (oi := { dst := some 32, op := Op.move (Operand.tmp 1), type := 3, pos := "compile.go:103", after := #[], guard := none }) (v := ?_) rfl (by kernel_rfl) (by kernel_rfl) (by kernel_rfl) (fun _ _ _ h => h) (Or.inl ⟨by rfl, ?_⟩) hHeld ?_
      rotate_left
      · intro w hSw
        try dsimp only at hSw
        go_simp
        try with_reducible rfl
      try simp only [Act.put, List.setIfInBounds_toArray, List.set_cons_zero, List.set_cons_succ]
      refine wpAnyH_take (i := 3) (oi := { dst := some 33, op := Op.fieldAddr 75 (Operand.tmp 2) 0, type := 0, pos := "compile.go:103", after := #[], guard := none }) (v := ?_) rfl (by kernel_rfl) (by kernel_rfl) (by kernel_rfl) (fun _ _ _ h => h) (Or.inl ⟨by rfl, ?_⟩) hHeld ?_
      rotate_left
      · intro w hSw
        try dsimp only at hSw
        go_simp
        try with_reducible rfl
      try simp only [Act.put, List.setIfInBounds_toArray, List.set_cons_zero, List.set_cons_succ]
      refine wpAnyH_take (i := 4) (oi := { dst := some 34, op := Op.load 3 (Operand.tmp 33), type := 3, pos := "compile.go:103", after := #[{ on := 3, ground := Ground.data }], guard := none }) (v := ?_) rfl (by kernel_rfl) (by kernel_rfl) (by kernel_rfl) (fun _ _ _ h => h) (Or.inl ⟨by rfl, ?_⟩) hHeld ?_
      rotate_left
      · intro w hSw
        try dsimp only at hSw
        go_simp
        try with_reducible rfl
      try simp only [Act.put, List.setIfInBounds_toArray, List.set_cons_zero, List.set_cons_succ]
      refine wpAnyH_take (i := 5) (oi := { dst := some 35, op := Op.binOp BinOp.sub 3 (Operand.tmp 32) (Operand.tmp 34) 3, type := 3, pos := "compile.go:103", after := #[{ on := 2, ground := Ground.data }, { on := 4, ground := Ground.data }], guard := none }) (v := ?_) rfl (by kernel_rfl) (by kernel_rfl) (by kernel_rfl) (fun _ _ _ h => h) (Or.inl ⟨by rfl, ?_⟩) hHeld ?_
      rotate_left
      · intro w hSw
        try dsimp only at hSw
        go_simp
        try with_reducible rfl
      try simp only [Act.put, List.setIfInBounds_toArray, List.set_cons_zero, List.set_cons_succ]
      refine wpAnyH_take (i := 6) (oi := { dst := some 36, op := Op.indexAddr 38 (Operand.tmp 31) (Operand.tmp 35), type := 0, pos := "compile.go:103", after := #[{ on := 1, ground := Ground.data }, { on := 5, ground := Ground.data }], guard := none }) (v := ?_) rfl (by kernel_rfl) (by kernel_rfl) (by kernel_rfl) (fun _ _ _ h => h) (Or.inl ⟨by rfl, ?_⟩) hHeld ?_
      rotate_left
      · intro w hSw
        try dsimp only at hSw
        go_simp
        try with_reducible rfl
      try simp only [Act.put, List.setIfInBounds_toArray, List.set_cons_zero, List.set_cons_succ]
      refine wpAnyH_take (i := 7) (oi := { dst := some 37, op := Op.load 26 (Operand.tmp 36), type := 26, pos := "compile.go:103", after := #[{ on := 6, ground := Ground.data }], guard := none }) (v := ?_) rfl (by kernel_rfl) (by kernel_rfl) (by kernel_rfl) (fun _ _ _ h => h) (Or.inl ⟨by rfl, ?_⟩) hHeld ?_
      rotate_left
      · intro w hSw
        try dsimp only at hSw
        go_simp
        try with_reducible rfl
      try simp only [Act.put, List.setIfInBounds_toArray, List.set_cons_zero, List.set_cons_succ]
      refine wpAnyH_take (i := 8) (oi := { dst := some 38, op := Op.fieldAddr 75 (Operand.tmp 2) 2, type := 0, pos := "compile.go:103", after := #[{ on := 16, ground := Ground.gcOnly Departure.lateStores }], guard := none }) (v := ?_) rfl (by kernel_rfl) (by kernel_rfl) (by kernel_rfl) (fun _ _ _ h => h) (Or.inl ⟨by rfl, ?_⟩) hHeld ?_
      rotate_left
      · intro w hSw
        try dsimp only at hSw
        go_simp
        try with_reducible rfl
      try simp only [Act.put, List.setIfInBounds_toArray, List.set_cons_zero, List.set_cons_succ]
      refine wpAnyH_take (i := 9) (oi := { dst := some 39, op := Op.load 73 (Operand.tmp 38), type := 73, pos := "compile.go:103", after := #[{ on := 8, ground := Ground.data }, { on := 16, ground := Ground.gcOnly Departure.lateStores }], guard := none }) (v := ?_) rfl (by kernel_rfl) (by kernel_rfl) (by kernel_rfl) (fun _ _ _ h => h) (Or.inl ⟨by rfl, ?_⟩) hHeld ?_
      rotate_left
      · intro w hSw
        try dsimp only at hSw
        go_simp
        try with_reducible rfl
      try simp only [Act.put, List.setIfInBounds_toArray, List.set_cons_zero, List.set_cons_succ]
      refine wpAnyH_take (i := 10) (oi := { dst := some 40, op := Op.move (Operand.tmp 1), type := 3, pos := "compile.go:103", after := #[{ on := 16, ground := Ground.gcOnly Departure.lateStores }], guard := none }) (v := ?_) rfl (by kernel_rfl) (by kernel_rfl) (by kernel_rfl) (fun _ _ _ h => h) (Or.inl ⟨by rfl, ?_⟩) hHeld ?_
      rotate_left
      · intro w hSw
        try dsimp only at hSw
        go_simp
        try with_reducible rfl
      try simp only [Act.put, List.setIfInBounds_toArray, List.set_cons_zero, List.set_cons_succ]
      refine wpAnyH_take (i := 11) (oi := { dst := some 41, op := Op.fieldAddr 75 (Operand.tmp 2) 0, type := 0, pos := "compile.go:103", after := #[{ on := 16, ground := Ground.gcOnly Departure.lateStores }], guard := none }) (v := ?_) rfl (by kernel_rfl) (by kernel_rfl) (by kernel_rfl) (fun _ _ _ h => h) (Or.inl ⟨by rfl, ?_⟩) hHeld ?_
      rotate_left
      · intro w hSw
        try dsimp only at hSw
        go_simp
        try with_reducible rfl
      try simp only [Act.put, List.setIfInBounds_toArray, List.set_cons_zero, List.set_cons_succ]
      refine wpAnyH_take (i := 12) (oi := { dst := some 42, op := Op.load 3 (Operand.tmp 41), type := 3, pos := "compile.go:103", after := #[{ on := 11, ground := Ground.data }, { on := 16, ground := Ground.gcOnly Departure.lateStores }], guard := none }) (v := ?_) rfl (by kernel_rfl) (by kernel_rfl) (by kernel_rfl) (fun _ _ _ h => h) (Or.inl ⟨by rfl, ?_⟩) hHeld ?_
      rotate_left
      · intro w hSw
        try dsimp only at hSw
        go_simp
        try with_reducible rfl
      try simp only [Act.put, List.setIfInBounds_toArray, List.set_cons_zero, List.set_cons_succ]
      refine wpAnyH_take (i := 13) (oi := { dst := some 43, op := Op.binOp BinOp.sub 3 (Operand.tmp 40) (Operand.tmp 42) 3, type := 3, pos := "compile.go:103", after := #[{ on := 10, ground := Ground.data }, { on := 12, ground := Ground.data }, { on := 16, ground := Ground.gcOnly Departure.lateStores }], guard := none }) (v := ?_) rfl (by kernel_rfl) (by kernel_rfl) (by kernel_rfl) (fun _ _ _ h => h) (Or.inl ⟨by rfl, ?_⟩) hHeld ?_
      rotate_left
      · intro w hSw
        try dsimp only at hSw
        go_simp
        try with_reducible rfl
      try simp only [Act.put, List.setIfInBounds_toArray, List.set_cons_zero, List.set_cons_succ]
      refine wpAnyH_take (i := 14) (oi := { dst := some 44, op := Op.indexAddr 73 (Operand.tmp 39) (Operand.tmp 43), type := 0, pos := "compile.go:103", after := #[{ on := 9, ground := Ground.data }, { on := 13, ground := Ground.data }, { on := 16, ground := Ground.gcOnly Departure.lateStores }], guard := none }) (v := ?_) rfl (by kernel_rfl) (by kernel_rfl) (by kernel_rfl) (fun _ _ _ h => h) (Or.inl ⟨by rfl, ?_⟩) hHeld ?_
      rotate_left
      · intro w hSw
        try dsimp only at hSw
        go_simp
        try with_reducible rfl
      try simp only [Act.put, List.setIfInBounds_toArray, List.set_cons_zero, List.set_cons_succ]
      refine wpAnyH_take (i := 15) (oi := { dst := some 45, op := Op.load 85 (Operand.tmp 44), type := 85, pos := "compile.go:103", after := #[{ on := 14, ground := Ground.data }, { on := 16, ground := Ground.gcOnly Departure.lateStores }], guard := none }) (v := ?_) rfl (by kernel_rfl) (by kernel_rfl) (by kernel_rfl) (fun _ _ _ h => h) (Or.inl ⟨by rfl, ?_⟩) hHeld ?_
      rotate_left
      · intro w hSw
        try dsimp only at hSw
        go_simp
        try with_reducible rfl
      try simp only [Act.put, List.setIfInBounds_toArray, List.set_cons_zero, List.set_cons_succ]
      refine wpAnyH_ready (rs := [16]) (by kernel_rfl) (by simp) ?_
      refine AllReadyH.cons (o := { dst := none, op := Op.store 26 (Operand.tmp 4) (Operand.tmp 37), type := 0, pos := "compile.go:103", after := #[{ on := 7, ground := Ground.data }, { on := 0, ground := Ground.phase }, { on := 1, ground := Ground.phase }, { on := 2, ground := Ground.phase }, { on := 3, ground := Ground.phase }, { on := 4, ground := Ground.phase }, { on := 5, ground := Ground.phase }, { on := 6, ground := Ground.phase }, { on := 7, ground := Ground.phase }, { on := 8, ground := Ground.textOnly Departure.lateStores }, { on := 9, ground := Ground.textOnly Departure.lateStores }, { on := 10, ground := Ground.textOnly Departure.lateStores }, { on := 11, ground := Ground.textOnly Departure.lateStores }, { on := 12, ground := Ground.textOnly Departure.lateStores }, { on := 13, ground := Ground.textOnly Departure.lateStores }, { on := 14, ground := Ground.textOnly Departure.lateStores }, { on := 15, ground := Ground.textOnly Departure.lateStores }], guard := none }) rfl (fun K hK => ?_) (AllReadyH.nil)
      rw [if_pos (by rfl)]
      refine wp_store_g 26 (.tmp 4) (.tmp 37) rfl rfl (w.heap.size + 1) 0 a.A a.A rfl rfl _ _ z3 (by show 0 + 19 ≤ 19; decide) (by kernel_rfl) (by kernel_rfl) (by kernel_rfl) ?_
      have z4 := Blk.row z3 a.A
      have x4 := Blk.rowFar x3 (show w.heap.size ≠ w.heap.size + 1 by omega) a.A
      have i4 : Inv w (w2.drew.setRow (w.heap.size + 1) a.A) := by have q := below_row i3.2 (Nat.le_add_right _ 1) a.A; exact ⟨hT.below hT.1 q, q⟩
      refine hK.out _ _ (cy_mk i4 x4 hrow hcel) (fun hHeld2 => ?_)
      clear hK K hHeld; have hHeld := hHeld2; clear hHeld2
      try simp only [Act.put, List.setIfInBounds_toArray, List.set_cons_zero, List.set_cons_succ]
      refine wpAnyH_take (i := 17) (oi := { dst := some 5, op := Op.assign (Operand.tmp 45), type := 85, pos := "compile.go:103", after := #[{ on := 15, ground := Ground.data }, { on := 16, ground := Ground.chain }, { on := 0, ground := Ground.phase }, { on := 1, ground := Ground.phase }, { on := 2, ground := Ground.phase }, { on := 3, ground := Ground.phase }, { on := 4, ground := Ground.phase }, { on := 5, ground := Ground.phase }, { on := 6, ground := Ground.phase }, { on := 7, ground := Ground.phase }, { on := 8, ground := Ground.phase }, { on := 9, ground := Ground.phase }, { on := 10, ground := Ground.phase }, { on := 11, ground := Ground.phase }, { on := 12, ground := Ground.phase }, { on := 13, ground := Ground.phase }, { on := 14, ground := Ground.phase }, { on := 15, ground := Ground.phase }, { on := 16, ground := Ground.phase }], guard := none }) (v := ?_) rfl (by kernel_rfl) (by kernel_rfl) (by kernel_rfl) (fun _ _ _ h => h) (Or.inl ⟨by rfl, ?_⟩) hHeld ?_
      rotate_left
      · intro w hSw
        try dsimp only at hSw
        go_simp
        try with_reducible rfl
      try simp only [Act.put, List.setIfInBounds_toArray, List.set_cons_zero, List.set_cons_succ]
      refine wpAnyH_take (i := 18) (oi := { dst := some 6, op := Op.assign (Operand.const (Value.int IntKind.i64 0)), type := 30, pos := "compile.go:103", after := #[{ on := 17, ground := Ground.chain }, { on := 0, ground := Ground.phase }, { on := 1, ground := Ground.phase }, { on := 2, ground := Ground.phase }, { on := 3, ground := Ground.phase }, { on := 4, ground := Ground.phase }, { on := 5, ground := Ground.phase }, { on := 6, ground := Ground.phase }, { on := 7, ground := Ground.phase }, { on := 8, ground := Ground.phase }, { on := 9, ground := Ground.phase }, { on := 10, ground := Ground.phase }, { on := 11, ground := Ground.phase }, { on := 12, ground := Ground.phase }, { on := 13, ground := Ground.phase }, { on := 14, ground := Ground.phase }, { on := 15, ground := Ground.phase }, { on := 16, ground := Ground.phase }, { on := 17, ground := Ground.phase }], guard := none }) (v := ?_) rfl (by kernel_rfl) (by kernel_rfl) (by kernel_rfl) (fun _ _ _ h => h) (Or.inl ⟨by rfl, ?_⟩) hHeld ?_
      rotate_left
      · intro w hSw
        try dsimp only at hSw
        go_simp
        try with_reducible rfl
      try simp only [Act.put, List.setIfInBounds_toArray, List.set_cons_zero, List.set_cons_succ]
      refine wpAnyH_done (by kernel_rfl) ?_ _
      clear hHeld
      go_wp2_with fail
      exact bodyPost_ret (res_ctt rfl _ _ _ _ _ _ _ _ rfl rfl rfl z4 Tryd.underlying26 rfl (by kernel_rfl)) rfl ⟨rfl, i4.2⟩
end Go.Proofs.YtefcjccapekjdaaDoor.Sq
