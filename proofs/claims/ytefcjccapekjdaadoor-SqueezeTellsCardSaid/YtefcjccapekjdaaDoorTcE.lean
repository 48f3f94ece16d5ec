/-
  TABLES COMPARED: slices.Equal of records, table.Same, and the reference's, walked.
-/
import Derived.Test.YtefcjccapekjdaaDoorTbP
import Derived.Test.YtefcjccapekjdaaDoorTbE
import Derived.Test.YtefcjccapekjdaaDoorLd
import Derived.Deep.RegionHeld3
import Derived.BigQuiet
namespace Go.Proofs.YtefcjccapekjdaaDoor.Tb
open Go.ChangeShapes Go.WideShapes Go.ChangeAt Go.RowKit
open Go.Proofs.YtefcjccapekjdaaDoor
open Go.Proofs.YtefcjccapekjdaaDoor.Wd
open Go.Proofs.YtefcjccapekjdaaDoor.Rec
open Go.Proofs.YtefcjccapekjdaaDoor.Yr
open Go.Proofs.YtefcjccapekjdaaDoor.Clk (yrV yrE)
open Go.Proofs.YtefcjccapekjdaaDoor.Civ (Tab Inv)
set_option linter.unusedVariables false
open Go.Proofs.YtefcjccapekjdaaDoor.Ld
set_option linter.unusedSimpArgs false
attribute [local go_sem ↓] ldR_sem ldS_sem
attribute [local go_sem] ldSem_run
theorem ld_row {w : World} {B : Nat} {p : Addr} {cs : Array Value} (h : Row w B p cs) (hs : (Tryd.prog.info? 26).map (·.size) = some cs.size) : ldT 26 (.pointer (some p)) w = some cs := by
  refine ldT_of ?_
  have := run_loadVar_at (P := Tryd.prog) w B p 26 cs _ h Tryd.underlying26 rfl hs
  simp only [Instr.loadAt, Instr.sureAddr, Sem.run_bind, Sem.run_pure, Result.andThen_ok, this]
def eqRc (a b : Rc) : Bool := eqR a.b a.c a.d a.p a.q b.b b.c b.d b.p b.q
theorem eqRc_iff {a b : Rc} : eqRc a b = true ↔ a = b := by
  unfold eqRc; rw [eqR_iff]
  constructor
  · rintro ⟨h1, h2, h3, h4, h5⟩; cases a; cases b; simp_all
  · rintro rfl; exact ⟨rfl, rfl, rfl, rfl, rfl⟩
abbrev ra_ (l : List Rc) (k : Nat) : Rc := l.getD k Rc.nil
theorem ra_eq {l : List Rc} {k : Nat} (h : k < l.length) : l[k] = ra_ l k := by
  show l[k] = l.getD k Rc.nil
  rw [List.getD_eq_getElem?_getD, List.getElem?_eq_getElem h]; rfl
def eqLs (l m : List Rc) : Bool := decide (l.length = m.length) && (List.range l.length).all fun i => eqRc (ra_ l i) (ra_ m i)
theorem eqLs_self (l : List Rc) : eqLs l l = true := by
  unfold eqLs; rw [Bool.and_eq_true]; exact ⟨decide_eq_true rfl, List.all_eq_true.2 fun i _ => eqRc_iff.2 rfl⟩
theorem eqLs_len {l m : List Rc} (h : l.length ≠ m.length) : eqLs l m = false := by unfold eqLs; rw [decide_eq_false h]; rfl
theorem eqLs_no {l m : List Rc} {k : Nat} (hk : k < l.length) (h : eqRc (ra_ l k) (ra_ m k) = false) : eqLs l m = false := by
  unfold eqLs
  cases hd : decide (l.length = m.length) with
  | false => rfl
  | true => rw [Bool.true_and, List.all_eq_false]; exact ⟨k, List.mem_range.2 hk, by rw [h]; decide⟩
theorem eqLs_yes {l m : List Rc} (hl : l.length = m.length) (h : ∀ k, k < l.length → eqRc (ra_ l k) (ra_ m k) = true) : eqLs l m = true := by
  unfold eqLs; rw [decide_eq_true hl, Bool.true_and, List.all_eq_true]; exact fun i hi => h i (List.mem_range.1 hi)
theorem neq_rcc (a b : Rc) : (binOp .neq 26 (.agg a.A) (.agg b.A)).run Tryd.prog = fun w => .ok (.bool (!eqRc a b)) w := funext fun w => neq_rc a.b a.c a.d b.b b.c b.d a.p a.q b.p b.q w
set_option maxRecDepth 100000 in
set_option maxHeartbeats 6400000 in
attribute [-go_sem] run_eql_struct run_neq_struct in
theorem equal_any (A A2 : Option Addr) (n n2 c c2 : Nat) (l m : List Rc) (w : World) (hR : Recs w w.heap.size A n l) (hR2 : Recs w w.heap.size A2 n2 m) (hm : n ≤ maxLen) (hm2 : n2 ≤ maxLen) :
    Calls Tryd.prog 104 #[.slice A n c, .slice A2 n2 c2] w fun e w' => e = .returned (.bool (eqLs l m)) ∧ Below w.heap.size w w' := by
  unfold maxLen at hm hm2
  have hln := hR.1; have hln2 := hR2.1
  by_cases hn : n = n2
  · subst hn
    have hne : ((n : Int) != (n : Int)) = false := by simp
    go_enter Tryd.func104, Tryd.ntmps104
    go_wp2_with fail
    go_loopw [13, 5] (fun i _ wr => ∃ k : Nat, i = .int .i64 k ∧ k ≤ n ∧ (∀ j, j < k → eqRc (ra_ l j) (ra_ m j) = true) ∧ Below w.heap.size w wr) (fun i _ _ => n - (intOf i).toNat)
    case atStart => exact ⟨0, rfl, Nat.zero_le _, fun j hj => absurd hj (Nat.not_lt_zero _), Below.refl _ _⟩
    case round =>
      obtain ⟨k, rfl, hk, hall, hb⟩ := hrel
      have HA := Lib.hid hall; clear hall
      by_cases hlt : k < n
      · have hlt' : (k : Int) < (n : Int) := by omega
        obtain ⟨ad, rfl, r1⟩ := (hR.below hb.drew).row hlt (by omega)
        obtain ⟨bd, rfl, r2⟩ := (hR2.below hb.drew).row hlt (by omega)
        rw [ra_eq (by omega)] at r1 r2
        have HE := Lib.hid (fun h => eqLs_no (l := l) (m := m) (k := k) (by omega) h)
        have HN := Lib.hid (fun (q : eqRc (ra_ l k) (ra_ m k) = true) => (show ∀ j, j < k + 1 → eqRc (ra_ l j) (ra_ m j) = true from fun j hj => by
          by_cases e : j = k
          · subst e; exact q
          · exact HA.out j (by omega)))
        generalize ra_ l k = a at *
        generalize ra_ m k = b at *
        have hq := neq_rcc a b
        go_upto_region 6 with fail
        cases he : eqRc a b with
        | false =>
          rw [he] at hq
          have hE := Lib.hid (HE.out he)
          clear he HE HN HA
          refine wp_region_held_drew (S := fun w' => ldT 26 (.pointer (some (ad.add (k * 19)))) w' = some a.A ∧ ldT 26 (.pointer (some (bd.add (k * 19)))) w' = some b.A) (by kernel_rfl) (⟨ld_row r1 (by kernel_rfl), ld_row r2 (by kernel_rfl)⟩) (fun hHeld => ?_)
          refine wpAnyH_take (i := 0) (oi := { dst := some 16, op := Op.move (Operand.tmp 0), type := 38, pos := "slices.go:25", after := #[], guard := none }) (v := ?_) rfl (by kernel_rfl) (by kernel_rfl) (by kernel_rfl) (fun _ _ _ h => h) (Or.inl ⟨by rfl, ?_⟩) hHeld ?_
          rotate_left
          · intro w hSw
            try dsimp only at hSw
            go_simp
            try with_reducible rfl
          try simp only [Act.put, List.setIfInBounds_toArray, List.set_cons_zero, List.set_cons_succ]
          refine wpAnyH_take (i := 1) (oi := { dst := some 17, op := Op.move (Operand.tmp 5), type := 3, pos := "slices.go:25", after := #[], guard := none }) (v := ?_) rfl (by kernel_rfl) (by kernel_rfl) (by kernel_rfl) (fun _ _ _ h => h) (Or.inl ⟨by rfl, ?_⟩) hHeld ?_
          rotate_left
          · intro w hSw
            try dsimp only at hSw
            go_simp
            try with_reducible rfl
          try simp only [Act.put, List.setIfInBounds_toArray, List.set_cons_zero, List.set_cons_succ]
          refine wpAnyH_take (i := 2) (oi := { dst := some 18, op := Op.indexAddr 38 (Operand.tmp 16) (Operand.tmp 17), type := 0, pos := "slices.go:25", after := #[{ on := 0, ground := Ground.data }, { on := 1, ground := Ground.data }], guard := none }) (v := ?_) rfl (by kernel_rfl) (by kernel_rfl) (by kernel_rfl) (fun _ _ _ h => h) (Or.inl ⟨by rfl, ?_⟩) hHeld ?_
          rotate_left
          · intro w hSw
            try dsimp only at hSw
            go_simp
            try with_reducible rfl
          try simp only [Act.put, List.setIfInBounds_toArray, List.set_cons_zero, List.set_cons_succ]
          refine wpAnyH_take (i := 3) (oi := { dst := some 19, op := Op.load 26 (Operand.tmp 18), type := 26, pos := "slices.go:25", after := #[{ on := 2, ground := Ground.data }], guard := none }) (v := ?_) rfl (by kernel_rfl) (by kernel_rfl) (by kernel_rfl) (fun _ _ _ h => h) (Or.inl ⟨by rfl, ?_⟩) hHeld ?_
          rotate_left
          · intro w hSw
            try dsimp only at hSw
            go_simp
            try with_reducible rfl
          try simp only [Act.put, List.setIfInBounds_toArray, List.set_cons_zero, List.set_cons_succ]
          refine wpAnyH_take (i := 4) (oi := { dst := some 20, op := Op.move (Operand.tmp 1), type := 38, pos := "slices.go:25", after := #[], guard := none }) (v := ?_) rfl (by kernel_rfl) (by kernel_rfl) (by kernel_rfl) (fun _ _ _ h => h) (Or.inl ⟨by rfl, ?_⟩) hHeld ?_
          rotate_left
          · intro w hSw
            try dsimp only at hSw
            go_simp
            try with_reducible rfl
          try simp only [Act.put, List.setIfInBounds_toArray, List.set_cons_zero, List.set_cons_succ]
          refine wpAnyH_take (i := 5) (oi := { dst := some 21, op := Op.move (Operand.tmp 5), type := 3, pos := "slices.go:25", after := #[], guard := none }) (v := ?_) rfl (by kernel_rfl) (by kernel_rfl) (by kernel_rfl) (fun _ _ _ h => h) (Or.inl ⟨by rfl, ?_⟩) hHeld ?_
          rotate_left
          · intro w hSw
            try dsimp only at hSw
            go_simp
            try with_reducible rfl
          try simp only [Act.put, List.setIfInBounds_toArray, List.set_cons_zero, List.set_cons_succ]
          refine wpAnyH_take (i := 6) (oi := { dst := some 22, op := Op.indexAddr 38 (Operand.tmp 20) (Operand.tmp 21), type := 0, pos := "slices.go:25", after := #[{ on := 4, ground := Ground.data }, { on := 5, ground := Ground.data }], guard := none }) (v := ?_) rfl (by kernel_rfl) (by kernel_rfl) (by kernel_rfl) (fun _ _ _ h => h) (Or.inl ⟨by rfl, ?_⟩) hHeld ?_
          rotate_left
          · intro w hSw
            try dsimp only at hSw
            go_simp
            try with_reducible rfl
          try simp only [Act.put, List.setIfInBounds_toArray, List.set_cons_zero, List.set_cons_succ]
          refine wpAnyH_take (i := 7) (oi := { dst := some 23, op := Op.load 26 (Operand.tmp 22), type := 26, pos := "slices.go:25", after := #[{ on := 6, ground := Ground.data }], guard := none }) (v := ?_) rfl (by kernel_rfl) (by kernel_rfl) (by kernel_rfl) (fun _ _ _ h => h) (Or.inl ⟨by rfl, ?_⟩) hHeld ?_
          rotate_left
          · intro w hSw
            try dsimp only at hSw
            go_simp
            try with_reducible rfl
          try simp only [Act.put, List.setIfInBounds_toArray, List.set_cons_zero, List.set_cons_succ]
          refine wpAnyH_take (i := 8) (oi := { dst := some 24, op := Op.binOp BinOp.neq 26 (Operand.tmp 19) (Operand.tmp 23) 26, type := 4, pos := "slices.go:25", after := #[{ on := 3, ground := Ground.data }, { on := 7, ground := Ground.data }], guard := none }) (v := ?_) rfl (by kernel_rfl) (by kernel_rfl) (by kernel_rfl) (fun _ _ _ h => h) (Or.inl ⟨by rfl, ?_⟩) hHeld ?_
          rotate_left
          · intro w hSw
            try dsimp only at hSw
            go_simp
            try with_reducible rfl
          try simp only [Act.put, List.setIfInBounds_toArray, List.set_cons_zero, List.set_cons_succ]
          refine wpAnyH_done (by kernel_rfl) ?_ _
          clear hHeld
          go_wp2_with fail
          go_ret
          exact ⟨by rw [hE.out]; rfl, hb.drew⟩
        | true =>
          rw [he] at hq
          have hN := Lib.hid (HN.out he)
          clear he HE HN HA
          refine wp_region_held_drew (S := fun w' => ldT 26 (.pointer (some (ad.add (k * 19)))) w' = some a.A ∧ ldT 26 (.pointer (some (bd.add (k * 19)))) w' = some b.A) (by kernel_rfl) (⟨ld_row r1 (by kernel_rfl), ld_row r2 (by kernel_rfl)⟩) (fun hHeld => ?_)
          refine wpAnyH_take (i := 0) (oi := { dst := some 16, op := Op.move (Operand.tmp 0), type := 38, pos := "slices.go:25", after := #[], guard := none }) (v := ?_) rfl (by kernel_rfl) (by kernel_rfl) (by kernel_rfl) (fun _ _ _ h => h) (Or.inl ⟨by rfl, ?_⟩) hHeld ?_
          rotate_left
          · intro w hSw
            try dsimp only at hSw
            go_simp
            try with_reducible rfl
          try simp only [Act.put, List.setIfInBounds_toArray, List.set_cons_zero, List.set_cons_succ]
          refine wpAnyH_take (i := 1) (oi := { dst := some 17, op := Op.move (Operand.tmp 5), type := 3, pos := "slices.go:25", after := #[], guard := none }) (v := ?_) rfl (by kernel_rfl) (by kernel_rfl) (by kernel_rfl) (fun _ _ _ h => h) (Or.inl ⟨by rfl, ?_⟩) hHeld ?_
          rotate_left
          · intro w hSw
            try dsimp only at hSw
            go_simp
            try with_reducible rfl
          try simp only [Act.put, List.setIfInBounds_toArray, List.set_cons_zero, List.set_cons_succ]
          refine wpAnyH_take (i := 2) (oi := { dst := some 18, op := Op.indexAddr 38 (Operand.tmp 16) (Operand.tmp 17), type := 0, pos := "slices.go:25", after := #[{ on := 0, ground := Ground.data }, { on := 1, ground := Ground.data }], guard := none }) (v := ?_) rfl (by kernel_rfl) (by kernel_rfl) (by kernel_rfl) (fun _ _ _ h => h) (Or.inl ⟨by rfl, ?_⟩) hHeld ?_
          rotate_left
          · intro w hSw
            try dsimp only at hSw
            go_simp
            try with_reducible rfl
          try simp only [Act.put, List.setIfInBounds_toArray, List.set_cons_zero, List.set_cons_succ]
          refine wpAnyH_take (i := 3) (oi := { dst := some 19, op := Op.load 26 (Operand.tmp 18), type := 26, pos := "slices.go:25", after := #[{ on := 2, ground := Ground.data }], guard := none }) (v := ?_) rfl (by kernel_rfl) (by kernel_rfl) (by kernel_rfl) (fun _ _ _ h => h) (Or.inl ⟨by rfl, ?_⟩) hHeld ?_
          rotate_left
          · intro w hSw
            try dsimp only at hSw
            go_simp
            try with_reducible rfl
          try simp only [Act.put, List.setIfInBounds_toArray, List.set_cons_zero, List.set_cons_succ]
          refine wpAnyH_take (i := 4) (oi := { dst := some 20, op := Op.move (Operand.tmp 1), type := 38, pos := "slices.go:25", after := #[], guard := none }) (v := ?_) rfl (by kernel_rfl) (by kernel_rfl) (by kernel_rfl) (fun _ _ _ h => h) (Or.inl ⟨by rfl, ?_⟩) hHeld ?_
          rotate_left
          · intro w hSw
            try dsimp only at hSw
            go_simp
            try with_reducible rfl
          try simp only [Act.put, List.setIfInBounds_toArray, List.set_cons_zero, List.set_cons_succ]
          refine wpAnyH_take (i := 5) (oi := { dst := some 21, op := Op.move (Operand.tmp 5), type := 3, pos := "slices.go:25", after := #[], guard := none }) (v := ?_) rfl (by kernel_rfl) (by kernel_rfl) (by kernel_rfl) (fun _ _ _ h => h) (Or.inl ⟨by rfl, ?_⟩) hHeld ?_
          rotate_left
          · intro w hSw
            try dsimp only at hSw
            go_simp
            try with_reducible rfl
          try simp only [Act.put, List.setIfInBounds_toArray, List.set_cons_zero, List.set_cons_succ]
          refine wpAnyH_take (i := 6) (oi := { dst := some 22, op := Op.indexAddr 38 (Operand.tmp 20) (Operand.tmp 21), type := 0, pos := "slices.go:25", after := #[{ on := 4, ground := Ground.data }, { on := 5, ground := Ground.data }], guard := none }) (v := ?_) rfl (by kernel_rfl) (by kernel_rfl) (by kernel_rfl) (fun _ _ _ h => h) (Or.inl ⟨by rfl, ?_⟩) hHeld ?_
          rotate_left
          · intro w hSw
            try dsimp only at hSw
            go_simp
            try with_reducible rfl
          try simp only [Act.put, List.setIfInBounds_toArray, List.set_cons_zero, List.set_cons_succ]
          refine wpAnyH_take (i := 7) (oi := { dst := some 23, op := Op.load 26 (Operand.tmp 22), type := 26, pos := "slices.go:25", after := #[{ on := 6, ground := Ground.data }], guard := none }) (v := ?_) rfl (by kernel_rfl) (by kernel_rfl) (by kernel_rfl) (fun _ _ _ h => h) (Or.inl ⟨by rfl, ?_⟩) hHeld ?_
          rotate_left
          · intro w hSw
            try dsimp only at hSw
            go_simp
            try with_reducible rfl
          try simp only [Act.put, List.setIfInBounds_toArray, List.set_cons_zero, List.set_cons_succ]
          refine wpAnyH_take (i := 8) (oi := { dst := some 24, op := Op.binOp BinOp.neq 26 (Operand.tmp 19) (Operand.tmp 23) 26, type := 4, pos := "slices.go:25", after := #[{ on := 3, ground := Ground.data }, { on := 7, ground := Ground.data }], guard := none }) (v := ?_) rfl (by kernel_rfl) (by kernel_rfl) (by kernel_rfl) (fun _ _ _ h => h) (Or.inl ⟨by rfl, ?_⟩) hHeld ?_
          rotate_left
          · intro w hSw
            try dsimp only at hSw
            go_simp
            try with_reducible rfl
          try simp only [Act.put, List.setIfInBounds_toArray, List.set_cons_zero, List.set_cons_succ]
          refine wpAnyH_done (by kernel_rfl) ?_ _
          clear hHeld
          go_wp2_with fail
          go_roundw
          case rel => exact ⟨k + 1, by go_num, by omega, hN.out, hb.drew⟩
          case measure => simp [intOf]; omega
      · obtain rfl : n = k := by omega
        have hlt' : ¬ (n : Int) < (n : Int) := by omega
        have hE := Lib.hid (eqLs_yes (l := l) (m := m) (by omega) (fun k hk => HA.out k (by omega)))
        go_wp2_with fail
        go_ret
        exact ⟨by rw [hE.out]; rfl, hb⟩
  · have hne : ((n : Int) != (n2 : Int)) = true := by simp; omega
    have hE := Lib.hid (eqLs_len (l := l) (m := m) (by omega))
    clear hn
    go_enter Tryd.func104, Tryd.ntmps104
    go_wp2_with fail
    go_ret
    exact ⟨by rw [hE.out]; rfl, Below.refl _ _⟩
def sameB (F L : Int) (l : List Rc) (F' L' : Int) (m : List Rc) : Bool := F == F' && (L == L' && eqLs l m)
set_option maxRecDepth 100000 in
set_option maxHeartbeats 3200000 in
theorem tsame_any (F L F' L' : Int) (A A2 : Option Addr) (n n2 c c2 : Nat) (l m : List Rc) (w : World) (hR : Recs w w.heap.size A n l) (hR2 : Recs w w.heap.size A2 n2 m) (hm : n ≤ maxLen) (hm2 : n2 ≤ maxLen) :
    Calls Tryd.prog 48 #[tbV F L A n c, tbV F' L' A2 n2 c2] w fun e w' => e = .returned (.bool (sameB F L l F' L' m)) ∧ Below w.heap.size w w' := by
  have b0 : Below w.heap.size w ((w.alloc (.cells (tbA F L A n c) 40)).alloc (.cells (tbA F' L' A2 n2 c2) 40)) := ((Below.refl _ _).alloc (Nat.le_refl _) _).alloc (by simp) _
  have x0 := (Blk.new w 40 (tbA F L A n c)).alloc (.cells (tbA F' L' A2 n2 c2) 40)
  have y0 := blk_at (w.alloc (.cells (tbA F L A n c) 40)) 40 (tbA F' L' A2 n2 c2) (sz1 w _ rfl)
  have heq := fun w' (hb : Below w.heap.size w w') => equal_any A A2 n n2 c c2 l m w' ((hR.below hb).more hb.size) ((hR2.below hb).more hb.size) hm hm2
  cases h1 : F == F' with
  | false =>
    have hE := Lib.hid (show sameB F L l F' L' m = false by unfold sameB; rw [h1]; rfl)
    go_enter Tryd.func48, Tryd.ntmps48
    go_wp2_with fail
    go_ret
    exact ⟨by rw [hE.out]; rfl, b0⟩
  | true =>
    cases h2 : L == L' with
    | false =>
      have hE := Lib.hid (show sameB F L l F' L' m = false by unfold sameB; rw [h1, h2]; rfl)
      go_enter Tryd.func48, Tryd.ntmps48
      go_wp2_with fail
      go_ret
      exact ⟨by rw [hE.out]; rfl, b0⟩
    | true =>
      have hE := Lib.hid (show sameB F L l F' L' m = eqLs l m by unfold sameB; rw [h1, h2]; rfl)
      have hc := heq _ b0
      generalize eqLs l m = E at *
      generalize hW : (w.alloc (.cells (tbA F L A n c) 40)).alloc (.cells (tbA F' L' A2 n2 c2) 40) = W at *
      have heq2 : ∀ w', Below W.heap.size W w' → Calls Tryd.prog 104 #[.slice A n c, .slice A2 n2 c2] w' fun e w'' => e = .returned (.bool E) ∧ Below w'.heap.size w' w'' := fun w' hb => heq w' (b0.trans (hb.mono b0.size))
      subst hW
      clear hR hR2 heq hc
      go_enter Tryd.func48, Tryd.ntmps48
      go_wp2_with (go_at_call 104; refine (heq2 _ (Below.refl _ _)).mono ?_; rintro e w2 ⟨rfl, hb2⟩)
      go_ret
      exact ⟨by rw [hE.out]; rfl, b0.trans (hb2.mono b0.size)⟩
set_option maxRecDepth 100000 in
set_option maxHeartbeats 6400000 in
attribute [-go_sem] run_eql_struct run_neq_struct in
theorem rtsame_any (F L F' L' : Int) (A A2 : Option Addr) (n n2 c c2 : Nat) (l m : List Rc) (w : World) (hR : Recs w w.heap.size A n l) (hR2 : Recs w w.heap.size A2 n2 m) (hm : n ≤ maxLen) (hm2 : n2 ≤ maxLen) :
    Calls Tryd.prog 49 #[tbV F L A n c, tbV F' L' A2 n2 c2] w fun e w' => e = .returned (.bool (sameB F L l F' L' m)) ∧ Below w.heap.size w w' := by
  have b0 : Below w.heap.size w ((w.alloc (.cells (tbA F L A n c) 40)).alloc (.cells (tbA F' L' A2 n2 c2) 40)) := ((Below.refl _ _).alloc (Nat.le_refl _) _).alloc (by simp) _
  have x0 := (Blk.new w 40 (tbA F L A n c)).alloc (.cells (tbA F' L' A2 n2 c2) 40)
  have y0 := blk_at (w.alloc (.cells (tbA F L A n c) 40)) 40 (tbA F' L' A2 n2 c2) (sz1 w _ rfl)
  unfold maxLen at hm hm2
  have hln := hR.1; have hln2 := hR2.1
  cases h1 : F != F' with
  | true =>
    have hE := Lib.hid (show sameB F L l F' L' m = false by unfold sameB; rw [bne_iff_ne] at h1; rw [beq_eq_false_iff_ne.2 h1]; rfl)
    go_enter Tryd.func49, Tryd.ntmps49
    go_wp2_with fail
    go_ret
    exact ⟨by rw [hE.out]; rfl, b0⟩
  | false =>
    have g1 : (F == F') = true := by rw [bne_eq_false_iff_eq] at h1; rw [h1]; simp
    cases h2 : L != L' with
    | true =>
      have hE := Lib.hid (show sameB F L l F' L' m = false by unfold sameB; rw [bne_iff_ne] at h2; rw [beq_eq_false_iff_ne.2 h2]; simp)
      go_enter Tryd.func49, Tryd.ntmps49
      go_wp2_with fail
      go_ret
      exact ⟨by rw [hE.out]; rfl, b0⟩
    | false =>
      have g2 : (L == L') = true := by rw [bne_eq_false_iff_eq] at h2; rw [h2]; simp
      by_cases hn : n = n2
      · subst hn
        have hne : ((n : Int) != (n : Int)) = false := by simp
        have hE := Lib.hid (show sameB F L l F' L' m = eqLs l m by unfold sameB; rw [g1, g2]; rfl)
        have HEE := hE; clear hE
        go_enter Tryd.func49, Tryd.ntmps49
        go_wp2_with fail
        generalize (w.alloc (.cells (tbA F L A n c) 40)).alloc (.cells (tbA F' L' A2 n c2) 40) = W at *
        go_loopw [30, 5] (fun i _ wr => ∃ k : Nat, i = .int .i64 k ∧ k ≤ n ∧ (∀ j, j < k → eqRc (ra_ l j) (ra_ m j) = true) ∧ Blk wr w.heap.size 40 (tbA F L A n c) ∧ Blk wr (w.heap.size + 1) 40 (tbA F' L' A2 n c2) ∧ Below w.heap.size w wr) (fun i _ _ => n - (intOf i).toNat)
        case atStart => exact ⟨0, rfl, Nat.zero_le _, fun j hj => absurd hj (Nat.not_lt_zero _), x0, y0, b0⟩
        case round =>
          clear x0 y0 b0
          obtain ⟨k, rfl, hk, hall, hx, hy, hb⟩ := hrel
          have HA := Lib.hid hall; clear hall
          by_cases hlt : k < n
          · have hlt' : (k : Int) < (n : Int) := by omega
            obtain ⟨ad, rfl, r1⟩ := (hR.below hb.drew).row hlt (by omega)
            obtain ⟨bd, rfl, r2⟩ := (hR2.below hb.drew).row hlt (by omega)
            rw [ra_eq (by omega)] at r1 r2
            have HE := Lib.hid (fun h => eqLs_no (l := l) (m := m) (k := k) (by omega) h)
            have HN := Lib.hid (fun (q : eqRc (ra_ l k) (ra_ m k) = true) => (show ∀ j, j < k + 1 → eqRc (ra_ l j) (ra_ m j) = true from fun j hj => by
              by_cases e : j = k
              · subst e; exact q
              · exact HA.out j (by omega)))
            have x2 : wr.drew.cell? ⟨w.heap.size, 2, none⟩ = some (.slice (some ad) n c) := hx.cell 2
            have y2 : wr.drew.cell? ⟨w.heap.size + 1, 2, none⟩ = some (.slice (some bd) n c2) := hy.cell 2
            generalize ra_ l k = a at *
            generalize ra_ m k = b at *
            have hq := neq_rcc a b
            go_upto_region 6 with fail
            cases he : eqRc a b with
            | false =>
              rw [he] at hq
              have hE := Lib.hid (HEE.out.trans (HE.out he))
              clear he HE HN HA
              refine wp_region_held_drew (S := fun w' => w'.cell? ⟨w.heap.size, 2, none⟩ = some (.slice (some ad) n c) ∧ w'.cell? ⟨w.heap.size + 1, 2, none⟩ = some (.slice (some bd) n c2) ∧ ldT 26 (.pointer (some (ad.add (k * 19)))) w' = some a.A ∧ ldT 26 (.pointer (some (bd.add (k * 19)))) w' = some b.A) (by kernel_rfl) (⟨x2, y2, ld_row r1 (by kernel_rfl), ld_row r2 (by kernel_rfl)⟩) (fun hHeld => ?_)
              refine wpAnyH_take (i := 0) (oi := { dst := some 33, op := Op.fieldAddr 40 (Operand.tmp 2) 2, type := 0, pos := "ref.go:72", after := #[], guard := none }) (v := ?_) rfl (by kernel_rfl) (by kernel_rfl) (by kernel_rfl) (fun _ _ _ h => h) (Or.inl ⟨by rfl, ?_⟩) hHeld ?_
              rotate_left
              · intro w hSw
                try dsimp only at hSw
                go_simp
                try with_reducible rfl
              try simp only [Act.put, List.setIfInBounds_toArray, List.set_cons_zero, List.set_cons_succ]
              refine wpAnyH_take (i := 1) (oi := { dst := some 34, op := Op.load 38 (Operand.tmp 33), type := 38, pos := "ref.go:72", after := #[{ on := 0, ground := Ground.data }], guard := none }) (v := ?_) rfl (by kernel_rfl) (by kernel_rfl) (by kernel_rfl) (fun _ _ _ h => h) (Or.inl ⟨by rfl, ?_⟩) hHeld ?_
              rotate_left
              · intro w hSw
                try dsimp only at hSw
                go_simp
                try with_reducible rfl
              try simp only [Act.put, List.setIfInBounds_toArray, List.set_cons_zero, List.set_cons_succ]
              refine wpAnyH_take (i := 2) (oi := { dst := some 35, op := Op.move (Operand.tmp 5), type := 3, pos := "ref.go:72", after := #[], guard := none }) (v := ?_) rfl (by kernel_rfl) (by kernel_rfl) (by kernel_rfl) (fun _ _ _ h => h) (Or.inl ⟨by rfl, ?_⟩) hHeld ?_
              rotate_left
              · intro w hSw
                try dsimp only at hSw
                go_simp
                try with_reducible rfl
              try simp only [Act.put, List.setIfInBounds_toArray, List.set_cons_zero, List.set_cons_succ]
              refine wpAnyH_take (i := 3) (oi := { dst := some 36, op := Op.indexAddr 38 (Operand.tmp 34) (Operand.tmp 35), type := 0, pos := "ref.go:72", after := #[{ on := 1, ground := Ground.data }, { on := 2, ground := Ground.data }], guard := none }) (v := ?_) rfl (by kernel_rfl) (by kernel_rfl) (by kernel_rfl) (fun _ _ _ h => h) (Or.inl ⟨by rfl, ?_⟩) hHeld ?_
              rotate_left
              · intro w hSw
                try dsimp only at hSw
                go_simp
                try with_reducible rfl
              try simp only [Act.put, List.setIfInBounds_toArray, List.set_cons_zero, List.set_cons_succ]
              refine wpAnyH_take (i := 4) (oi := { dst := some 37, op := Op.load 26 (Operand.tmp 36), type := 26, pos := "ref.go:72", after := #[{ on := 3, ground := Ground.data }], guard := none }) (v := ?_) rfl (by kernel_rfl) (by kernel_rfl) (by kernel_rfl) (fun _ _ _ h => h) (Or.inl ⟨by rfl, ?_⟩) hHeld ?_
              rotate_left
              · intro w hSw
                try dsimp only at hSw
                go_simp
                try with_reducible rfl
              try simp only [Act.put, List.setIfInBounds_toArray, List.set_cons_zero, List.set_cons_succ]
              refine wpAnyH_take (i := 5) (oi := { dst := some 38, op := Op.fieldAddr 40 (Operand.tmp 3) 2, type := 0, pos := "ref.go:72", after := #[], guard := none }) (v := ?_) rfl (by kernel_rfl) (by kernel_rfl) (by kernel_rfl) (fun _ _ _ h => h) (Or.inl ⟨by rfl, ?_⟩) hHeld ?_
              rotate_left
              · intro w hSw
                try dsimp only at hSw
                go_simp
                try with_reducible rfl
              try simp only [Act.put, List.setIfInBounds_toArray, List.set_cons_zero, List.set_cons_succ]
              refine wpAnyH_take (i := 6) (oi := { dst := some 39, op := Op.load 38 (Operand.tmp 38), type := 38, pos := "ref.go:72", after := #[{ on := 5, ground := Ground.data }], guard := none }) (v := ?_) rfl (by kernel_rfl) (by kernel_rfl) (by kernel_rfl) (fun _ _ _ h => h) (Or.inl ⟨by rfl, ?_⟩) hHeld ?_
              rotate_left
              · intro w hSw
                try dsimp only at hSw
                go_simp
                try with_reducible rfl
              try simp only [Act.put, List.setIfInBounds_toArray, List.set_cons_zero, List.set_cons_succ]
              refine wpAnyH_take (i := 7) (oi := { dst := some 40, op := Op.move (Operand.tmp 5), type := 3, pos := "ref.go:72", after := #[], guard := none }) (v := ?_) rfl (by kernel_rfl) (by kernel_rfl) (by kernel_rfl) (fun _ _ _ h => h) (Or.inl ⟨by rfl, ?_⟩) hHeld ?_
              rotate_left
              · intro w hSw
                try dsimp only at hSw
                go_simp
                try with_reducible rfl
              try simp only [Act.put, List.setIfInBounds_toArray, List.set_cons_zero, List.set_cons_succ]
              refine wpAnyH_take (i := 8) (oi := { dst := some 41, op := Op.indexAddr 38 (Operand.tmp 39) (Operand.tmp 40), type := 0, pos := "ref.go:72", after := #[{ on := 6, ground := Ground.data }, { on := 7, ground := Ground.data }], guard := none }) (v := ?_) rfl (by kernel_rfl) (by kernel_rfl) (by kernel_rfl) (fun _ _ _ h => h) (Or.inl ⟨by rfl, ?_⟩) hHeld ?_
              rotate_left
              · intro w hSw
                try dsimp only at hSw
                go_simp
                try with_reducible rfl
              try simp only [Act.put, List.setIfInBounds_toArray, List.set_cons_zero, List.set_cons_succ]
              refine wpAnyH_take (i := 9) (oi := { dst := some 42, op := Op.load 26 (Operand.tmp 41), type := 26, pos := "ref.go:72", after := #[{ on := 8, ground := Ground.data }], guard := none }) (v := ?_) rfl (by kernel_rfl) (by kernel_rfl) (by kernel_rfl) (fun _ _ _ h => h) (Or.inl ⟨by rfl, ?_⟩) hHeld ?_
              rotate_left
              · intro w hSw
                try dsimp only at hSw
                go_simp
                try with_reducible rfl
              try simp only [Act.put, List.setIfInBounds_toArray, List.set_cons_zero, List.set_cons_succ]
              refine wpAnyH_take (i := 10) (oi := { dst := some 43, op := Op.binOp BinOp.neq 26 (Operand.tmp 37) (Operand.tmp 42) 26, type := 4, pos := "ref.go:72", after := #[{ on := 4, ground := Ground.data }, { on := 9, ground := Ground.data }], guard := none }) (v := ?_) rfl (by kernel_rfl) (by kernel_rfl) (by kernel_rfl) (fun _ _ _ h => h) (Or.inl ⟨by rfl, ?_⟩) hHeld ?_
              rotate_left
              · intro w hSw
                try dsimp only at hSw
                go_simp
                try with_reducible rfl
              try simp only [Act.put, List.setIfInBounds_toArray, List.set_cons_zero, List.set_cons_succ]
              refine wpAnyH_done (by kernel_rfl) ?_ _
              clear hHeld
              go_wp2_with fail
              go_ret
              exact ⟨by rw [hE.out]; rfl, hb.drew⟩
            | true =>
              rw [he] at hq
              have hN := Lib.hid (HN.out he)
              clear he HE HN HA
              refine wp_region_held_drew (S := fun w' => w'.cell? ⟨w.heap.size, 2, none⟩ = some (.slice (some ad) n c) ∧ w'.cell? ⟨w.heap.size + 1, 2, none⟩ = some (.slice (some bd) n c2) ∧ ldT 26 (.pointer (some (ad.add (k * 19)))) w' = some a.A ∧ ldT 26 (.pointer (some (bd.add (k * 19)))) w' = some b.A) (by kernel_rfl) (⟨x2, y2, ld_row r1 (by kernel_rfl), ld_row r2 (by kernel_rfl)⟩) (fun hHeld => ?_)
              refine wpAnyH_take (i := 0) (oi := { dst := some 33, op := Op.fieldAddr 40 (Operand.tmp 2) 2, type := 0, pos := "ref.go:72", after := #[], guard := none }) (v := ?_) rfl (by kernel_rfl) (by kernel_rfl) (by kernel_rfl) (fun _ _ _ h => h) (Or.inl ⟨by rfl, ?_⟩) hHeld ?_
              rotate_left
              · intro w hSw
                try dsimp only at hSw
                go_simp
                try with_reducible rfl
              try simp only [Act.put, List.setIfInBounds_toArray, List.set_cons_zero, List.set_cons_succ]
              refine wpAnyH_take (i := 1) (oi := { dst := some 34, op := Op.load 38 (Operand.tmp 33), type := 38, pos := "ref.go:72", after := #[{ on := 0, ground := Ground.data }], guard := none }) (v := ?_) rfl (by kernel_rfl) (by kernel_rfl) (by kernel_rfl) (fun _ _ _ h => h) (Or.inl ⟨by rfl, ?_⟩) hHeld ?_
              rotate_left
              · intro w hSw
                try dsimp only at hSw
                go_simp
                try with_reducible rfl
              try simp only [Act.put, List.setIfInBounds_toArray, List.set_cons_zero, List.set_cons_succ]
              refine wpAnyH_take (i := 2) (oi := { dst := some 35, op := Op.move (Operand.tmp 5), type := 3, pos := "ref.go:72", after := #[], guard := none }) (v := ?_) rfl (by kernel_rfl) (by kernel_rfl) (by kernel_rfl) (fun _ _ _ h => h) (Or.inl ⟨by rfl, ?_⟩) hHeld ?_
              rotate_left
              · intro w hSw
                try dsimp only at hSw
                go_simp
                try with_reducible rfl
              try simp only [Act.put, List.setIfInBounds_toArray, List.set_cons_zero, List.set_cons_succ]
              refine wpAnyH_take (i := 3) (oi := { dst := some 36, op := Op.indexAddr 38 (Operand.tmp 34) (Operand.tmp 35), type := 0, pos := "ref.go:72", after := #[{ on := 1, ground := Ground.data }, { on := 2, ground := Ground.data }], guard := none }) (v := ?_) rfl (by kernel_rfl) (by kernel_rfl) (by kernel_rfl) (fun _ _ _ h => h) (Or.inl ⟨by rfl, ?_⟩) hHeld ?_
              rotate_left
              · intro w hSw
                try dsimp only at hSw
                go_simp
                try with_reducible rfl
              try simp only [Act.put, List.setIfInBounds_toArray, List.set_cons_zero, List.set_cons_succ]
              refine wpAnyH_take (i := 4) (oi := { dst := some 37, op := Op.load 26 (Operand.tmp 36), type := 26, pos := "ref.go:72", after := #[{ on := 3, ground := Ground.data }], guard := none }) (v := ?_) rfl (by kernel_rfl) (by kernel_rfl) (by kernel_rfl) (fun _ _ _ h => h) (Or.inl ⟨by rfl, ?_⟩) hHeld ?_
              rotate_left
              · intro w hSw
                try dsimp only at hSw
                go_simp
                try with_reducible rfl
              try simp only [Act.put, List.setIfInBounds_toArray, List.set_cons_zero, List.set_cons_succ]
              refine wpAnyH_take (i := 5) (oi := { dst := some 38, op := Op.fieldAddr 40 (Operand.tmp 3) 2, type := 0, pos := "ref.go:72", after := #[], guard := none }) (v := ?_) rfl (by kernel_rfl) (by kernel_rfl) (by kernel_rfl) (fun _ _ _ h => h) (Or.inl ⟨by rfl, ?_⟩) hHeld ?_
              rotate_left
              · intro w hSw
                try dsimp only at hSw
                go_simp
                try with_reducible rfl
              try simp only [Act.put, List.setIfInBounds_toArray, List.set_cons_zero, List.set_cons_succ]
              refine wpAnyH_take (i := 6) (oi := { dst := some 39, op := Op.load 38 (Operand.tmp 38), type := 38, pos := "ref.go:72", after := #[{ on := 5, ground := Ground.data }], guard := none }) (v := ?_) rfl (by kernel_rfl) (by kernel_rfl) (by kernel_rfl) (fun _ _ _ h => h) (Or.inl ⟨by rfl, ?_⟩) hHeld ?_
              rotate_left
              · intro w hSw
                try dsimp only at hSw
                go_simp
                try with_reducible rfl
              try simp only [Act.put, List.setIfInBounds_toArray, List.set_cons_zero, List.set_cons_succ]
              refine wpAnyH_take (i := 7) (oi := { dst := some 40, op := Op.move (Operand.tmp 5), type := 3, pos := "ref.go:72", after := #[], guard := none }) (v := ?_) rfl (by kernel_rfl) (by kernel_rfl) (by kernel_rfl) (fun _ _ _ h => h) (Or.inl ⟨by rfl, ?_⟩) hHeld ?_
              rotate_left
              · intro w hSw
                try dsimp only at hSw
                go_simp
                try with_reducible rfl
              try simp only [Act.put, List.setIfInBounds_toArray, List.set_cons_zero, List.set_cons_succ]
              refine wpAnyH_take (i := 8) (oi := { dst := some 41, op := Op.indexAddr 38 (Operand.tmp 39) (Operand.tmp 40), type := 0, pos := "ref.go:72", after := #[{ on := 6, ground := Ground.data }, { on := 7, ground := Ground.data }], guard := none }) (v := ?_) rfl (by kernel_rfl) (by kernel_rfl) (by kernel_rfl) (fun _ _ _ h => h) (Or.inl ⟨by rfl, ?_⟩) hHeld ?_
              rotate_left
              · intro w hSw
                try dsimp only at hSw
                go_simp
                try with_reducible rfl
              try simp only [Act.put, List.setIfInBounds_toArray, List.set_cons_zero, List.set_cons_succ]
              refine wpAnyH_take (i := 9) (oi := { dst := some 42, op := Op.load 26 (Operand.tmp 41), type := 26, pos := "ref.go:72", after := #[{ on := 8, ground := Ground.data }], guard := none }) (v := ?_) rfl (by kernel_rfl) (by kernel_rfl) (by kernel_rfl) (fun _ _ _ h => h) (Or.inl ⟨by rfl, ?_⟩) hHeld ?_
              rotate_left
              · intro w hSw
                try dsimp only at hSw
                go_simp
                try with_reducible rfl
              try simp only [Act.put, List.setIfInBounds_toArray, List.set_cons_zero, List.set_cons_succ]
              refine wpAnyH_take (i := 10) (oi := { dst := some 43, op := Op.binOp BinOp.neq 26 (Operand.tmp 37) (Operand.tmp 42) 26, type := 4, pos := "ref.go:72", after := #[{ on := 4, ground := Ground.data }, { on := 9, ground := Ground.data }], guard := none }) (v := ?_) rfl (by kernel_rfl) (by kernel_rfl) (by kernel_rfl) (fun _ _ _ h => h) (Or.inl ⟨by rfl, ?_⟩) hHeld ?_
              rotate_left
              · intro w hSw
                try dsimp only at hSw
                go_simp
                try with_reducible rfl
              try simp only [Act.put, List.setIfInBounds_toArray, List.set_cons_zero, List.set_cons_succ]
              refine wpAnyH_done (by kernel_rfl) ?_ _
              clear hHeld
              go_wp2_with fail
              go_roundw
              case rel => exact ⟨k + 1, by go_num, by omega, hN.out, hx.drew, hy.drew, hb.drew⟩
              case measure => simp [intOf]; omega
          · obtain rfl : n = k := by omega
            have hlt' : ¬ (n : Int) < (n : Int) := by omega
            have hE := Lib.hid (HEE.out.trans (eqLs_yes (l := l) (m := m) (by omega) (fun k hk => HA.out k (by omega))))
            go_wp2_with fail
            go_ret
            exact ⟨by rw [hE.out]; rfl, hb⟩
      · have hne : ((n : Int) != (n2 : Int)) = true := by simp; omega
        have hE := Lib.hid (show sameB F L l F' L' m = false by unfold sameB; rw [eqLs_len (l := l) (m := m) (by omega)]; simp)
        clear hn
        go_enter Tryd.func49, Tryd.ntmps49
        go_wp2_with fail
        go_ret
        exact ⟨by rw [hE.out]; rfl, b0⟩
end Go.Proofs.YtefcjccapekjdaaDoor.Tb
