/-
  NAMES: rule.rising, rule.Name, walked.
-/
import Derived.Test.YtgflodjohaemiaaDoorRows
import Derived.Test.YtgflodjohaemiaaDoorArm
import Derived.WalkLawsBesides
import Derived.Deep.RegionHeld3
import Derived.BigQuiet
import Derived.Lib.Hide
namespace Go.Proofs.YtgflodjohaemiaaDoor.Nv
open Go.ChangeShapes Go.WideShapes Go.ChangeAt Go.RowKit
open Go.Proofs.YtgflodjohaemiaaDoor
open Go.Proofs.YtgflodjohaemiaaDoor.Wd
set_option linter.unusedVariables false
abbrev nth (l : List Int) (k : Nat) : Int := l.getD k 0
def risB (l : List Int) : Bool := (List.range (l.length - 1)).all fun i => decide (nth l i ≤ nth l (i + 1))
theorem ris_no {l : List Int} {k : Nat} (h : k + 1 < l.length) (h2 : nth l (k + 1) < nth l k) : risB l = false := by
  unfold risB; rw [List.all_eq_false]; exact ⟨k, List.mem_range.2 (by omega), by rw [decide_eq_false (by omega)]; decide⟩
theorem ris_yes {l : List Int} (h : ∀ k, k + 1 < l.length → nth l k ≤ nth l (k + 1)) : risB l = true := by
  unfold risB; rw [List.all_eq_true]; intro i hi; have := List.mem_range.1 hi; exact decide_eq_true (h i (by omega))
theorem ints_at {w : World} {B n k : Nat} {A : Option Addr} {xs : List Int} (h : Reads w B 1 A n (xs.map (Value.int .i64))) (hk : k < n) : ∃ ad, A = some ad ∧ w.cell? (ad.add k) = some (.int .i64 (nth xs k)) := by
  have hl : k < xs.length := by have := h.1; simp at this; omega
  obtain ⟨ad, rfl, -, hc⟩ := h.2 (by omega)
  refine ⟨ad, rfl, hc k _ ?_⟩
  rw [List.getElem?_map, List.getElem?_eq_getElem hl]
  show some _ = some _
  rw [show nth xs k = xs[k] by show xs.getD k 0 = _; rw [List.getD_eq_getElem?_getD, List.getElem?_eq_getElem hl]; rfl]
theorem add_form {w : World} {p : Addr} {k : Nat} {v : Value} (h : w.cell? (p.add (k + 1)) = some v) : w.cell? ⟨p.block, p.off + (k + 1), none⟩ = some v := by
  unfold Addr.add at h
  rwa [if_neg (by omega)] at h
set_option maxHeartbeats 800000 in
theorem rising_any (A : Option Addr) (n c : Nat) (l : List Int) (w : World) (hR : Reads w w.heap.size 1 A n (l.map (Value.int .i64))) (h1 : 1 ≤ n) (hn : n ≤ 1000) :
    Calls Tryd.prog 49 #[.slice A n c] w fun e w' => e = .returned (.bool (risB l)) ∧ Below w.heap.size w w' := by
  have hl : l.length = n := by have := hR.1; simpa using this
  go_enter Tryd.func49, Tryd.ntmps49
  go_wp2_with fail
  go_loopw [3] (fun i wr => ∃ j : Nat, i = .int .i64 ((j : Int) + 1) ∧ j + 1 ≤ n ∧ (∀ k, k < j → nth l k ≤ nth l (k + 1)) ∧ Below w.heap.size w wr) (fun i _ => n - (intOf i).toNat)
  case atStart => exact ⟨0, rfl, h1, fun _ h => absurd h (Nat.not_lt_zero _), Below.refl _ _⟩
  case round =>
    obtain ⟨j, rfl, hj, hall, hb⟩ := hrel
    have HA := Lib.hid hall; clear hall
    by_cases hlt : j + 1 < n
    · have hlt' : (j : Int) + 1 < (n : Int) := by omega
      obtain ⟨ad, rfl, c1⟩ := ints_at (hR.below hb.drew) (show j < n by omega)
      obtain ⟨ad', e, c2⟩ := ints_at (hR.below hb.drew) hlt
      obtain rfl := Option.some.inj e
      have HN := Lib.hid (fun h => ris_no (l := l) (k := j) (by omega) h)
      have HY := Lib.hid (fun (h : nth l j ≤ nth l (j + 1)) k (hk : k < j + 1) => (show nth l k ≤ nth l (k + 1) by
        by_cases e : k = j
        · rw [e]; exact h
        · exact HA.out k (by omega)))
      generalize nth l j = x at *
      generalize nth l (j + 1) = y at *
      have a1 : IntKind.i64.wrap (j : Int) = (j : Int) := by simp [IntKind.wrap, IntKind.bits, IntKind.signed]; omega
      have a2 : 0 ≤ (j : Int) := by omega
      have a3 : ((j : Int)).toNat = j := by omega
      have a4 : ((j : Int) + 1).toNat = j + 1 := by omega
      have a5 : 0 ≤ (j : Int) + 1 := by omega
      have a6 : (j : Int) < (n : Int) := by omega
      by_cases hxy : y < x
      · have hE := Lib.hid (HN.out hxy)
        clear HN HY HA
        go_upto_region 4 with fail
        refine wp_region_held_drew (S := fun w' => w'.cell? (ad.add j) = some (.int .i64 x) ∧ w'.cell? ⟨ad.block, ad.off + (j + 1), none⟩ = some (.int .i64 y)) (by kernel_rfl) (⟨c1, add_form c2⟩) (fun hHeld => ?_)
        refine wpAnyH_take (i := 0) (oi := { dst := some 10, op := Op.move (Operand.tmp 0), type := 106, pos := "rule.go:23", after := #[], guard := none }) (v := ?_) rfl (by kernel_rfl) (by kernel_rfl) (by kernel_rfl) (fun _ _ _ h => h) (Or.inl ⟨by rfl, ?_⟩) hHeld ?_
        rotate_left
        · intro w hSw
          try dsimp only at hSw
          go_simp
          try with_reducible rfl
        try simp only [Act.put, List.setIfInBounds_toArray, List.set_cons_zero, List.set_cons_succ]
        refine wpAnyH_take (i := 1) (oi := { dst := some 11, op := Op.move (Operand.tmp 3), type := 3, pos := "rule.go:23", after := #[], guard := none }) (v := ?_) rfl (by kernel_rfl) (by kernel_rfl) (by kernel_rfl) (fun _ _ _ h => h) (Or.inl ⟨by rfl, ?_⟩) hHeld ?_
        rotate_left
        · intro w hSw
          try dsimp only at hSw
          go_simp
          try with_reducible rfl
        try simp only [Act.put, List.setIfInBounds_toArray, List.set_cons_zero, List.set_cons_succ]
        refine wpAnyH_take (i := 2) (oi := { dst := some 12, op := Op.binOp BinOp.sub 3 (Operand.tmp 11) (Operand.const (Value.int IntKind.i64 1)) 3, type := 3, pos := "rule.go:23", after := #[{ on := 1, ground := Ground.data }], guard := none }) (v := ?_) rfl (by kernel_rfl) (by kernel_rfl) (by kernel_rfl) (fun _ _ _ h => h) (Or.inl ⟨by rfl, ?_⟩) hHeld ?_
        rotate_left
        · intro w hSw
          try dsimp only at hSw
          go_simp
          try with_reducible rfl
        try simp only [Act.put, List.setIfInBounds_toArray, List.set_cons_zero, List.set_cons_succ]
        refine wpAnyH_take (i := 3) (oi := { dst := some 13, op := Op.indexAddr 106 (Operand.tmp 10) (Operand.tmp 12), type := 0, pos := "rule.go:23", after := #[{ on := 0, ground := Ground.data }, { on := 2, ground := Ground.data }], guard := none }) (v := ?_) rfl (by kernel_rfl) (by kernel_rfl) (by kernel_rfl) (fun _ _ _ h => h) (Or.inl ⟨by rfl, ?_⟩) hHeld ?_
        rotate_left
        · intro w hSw
          try dsimp only at hSw
          go_simp
          try with_reducible rfl
        try simp only [Act.put, List.setIfInBounds_toArray, List.set_cons_zero, List.set_cons_succ]
        refine wpAnyH_take (i := 4) (oi := { dst := some 14, op := Op.load 3 (Operand.tmp 13), type := 3, pos := "rule.go:23", after := #[{ on := 3, ground := Ground.data }], guard := none }) (v := ?_) rfl (by kernel_rfl) (by kernel_rfl) (by kernel_rfl) (fun _ _ _ h => h) (Or.inl ⟨by rfl, ?_⟩) hHeld ?_
        rotate_left
        · intro w hSw
          try dsimp only at hSw
          go_simp
          try with_reducible rfl
        try simp only [Act.put, List.setIfInBounds_toArray, List.set_cons_zero, List.set_cons_succ]
        refine wpAnyH_take (i := 5) (oi := { dst := some 15, op := Op.move (Operand.tmp 0), type := 106, pos := "rule.go:23", after := #[], guard := none }) (v := ?_) rfl (by kernel_rfl) (by kernel_rfl) (by kernel_rfl) (fun _ _ _ h => h) (Or.inl ⟨by rfl, ?_⟩) hHeld ?_
        rotate_left
        · intro w hSw
          try dsimp only at hSw
          go_simp
          try with_reducible rfl
        try simp only [Act.put, List.setIfInBounds_toArray, List.set_cons_zero, List.set_cons_succ]
        refine wpAnyH_take (i := 6) (oi := { dst := some 16, op := Op.move (Operand.tmp 3), type := 3, pos := "rule.go:23", after := #[], guard := none }) (v := ?_) rfl (by kernel_rfl) (by kernel_rfl) (by kernel_rfl) (fun _ _ _ h => h) (Or.inl ⟨by rfl, ?_⟩) hHeld ?_
        rotate_left
        · intro w hSw
          try dsimp only at hSw
          go_simp
          try with_reducible rfl
        try simp only [Act.put, List.setIfInBounds_toArray, List.set_cons_zero, List.set_cons_succ]
        refine wpAnyH_take (i := 7) (oi := { dst := some 17, op := Op.indexAddr 106 (Operand.tmp 15) (Operand.tmp 16), type := 0, pos := "rule.go:23", after := #[{ on := 5, ground := Ground.data }, { on := 6, ground := Ground.data }], guard := none }) (v := ?_) rfl (by kernel_rfl) (by kernel_rfl) (by kernel_rfl) (fun _ _ _ h => h) (Or.inl ⟨by rfl, ?_⟩) hHeld ?_
        rotate_left
        · intro w hSw
          try dsimp only at hSw
          go_simp
          try with_reducible rfl
        try simp only [Act.put, List.setIfInBounds_toArray, List.set_cons_zero, List.set_cons_succ]
        refine wpAnyH_take (i := 8) (oi := { dst := some 18, op := Op.load 3 (Operand.tmp 17), type := 3, pos := "rule.go:23", after := #[{ on := 7, ground := Ground.data }], guard := none }) (v := ?_) rfl (by kernel_rfl) (by kernel_rfl) (by kernel_rfl) (fun _ _ _ h => h) (Or.inl ⟨by rfl, ?_⟩) hHeld ?_
        rotate_left
        · intro w hSw
          try dsimp only at hSw
          go_simp
          try with_reducible rfl
        try simp only [Act.put, List.setIfInBounds_toArray, List.set_cons_zero, List.set_cons_succ]
        refine wpAnyH_take (i := 9) (oi := { dst := some 19, op := Op.binOp BinOp.gtr 3 (Operand.tmp 14) (Operand.tmp 18) 3, type := 4, pos := "rule.go:23", after := #[{ on := 4, ground := Ground.data }, { on := 8, ground := Ground.data }], guard := none }) (v := ?_) rfl (by kernel_rfl) (by kernel_rfl) (by kernel_rfl) (fun _ _ _ h => h) (Or.inl ⟨by rfl, ?_⟩) hHeld ?_
        rotate_left
        · intro w hSw
          try dsimp only at hSw
          go_simp
          try with_reducible rfl
        try simp only [Act.put, List.setIfInBounds_toArray, List.set_cons_zero, List.set_cons_succ]
        refine wpAnyH_done (by kernel_rfl) ?_ _
        clear hHeld
        go_wp2_with fail
        go_ret
        exact ⟨by rw [hE.out]; rfl, hb.drew⟩
      · have hY2 := Lib.hid (HY.out (by omega))
        clear HN HY HA
        go_upto_region 4 with fail
        refine wp_region_held_drew (S := fun w' => w'.cell? (ad.add j) = some (.int .i64 x) ∧ w'.cell? ⟨ad.block, ad.off + (j + 1), none⟩ = some (.int .i64 y)) (by kernel_rfl) (⟨c1, add_form c2⟩) (fun hHeld => ?_)
        refine wpAnyH_take (i := 0) (oi := { dst := some 10, op := Op.move (Operand.tmp 0), type := 106, pos := "rule.go:23", after := #[], guard := none }) (v := ?_) rfl (by kernel_rfl) (by kernel_rfl) (by kernel_rfl) (fun _ _ _ h => h) (Or.inl ⟨by rfl, ?_⟩) hHeld ?_
        rotate_left
        · intro w hSw
          try dsimp only at hSw
          go_simp
          try with_reducible rfl
        try simp only [Act.put, List.setIfInBounds_toArray, List.set_cons_zero, List.set_cons_succ]
        refine wpAnyH_take (i := 1) (oi := { dst := some 11, op := Op.move (Operand.tmp 3), type := 3, pos := "rule.go:23", after := #[], guard := none }) (v := ?_) rfl (by kernel_rfl) (by kernel_rfl) (by kernel_rfl) (fun _ _ _ h => h) (Or.inl ⟨by rfl, ?_⟩) hHeld ?_
        rotate_left
        · intro w hSw
          try dsimp only at hSw
          go_simp
          try with_reducible rfl
        try simp only [Act.put, List.setIfInBounds_toArray, List.set_cons_zero, List.set_cons_succ]
        refine wpAnyH_take (i := 2) (oi := { dst := some 12, op := Op.binOp BinOp.sub 3 (Operand.tmp 11) (Operand.const (Value.int IntKind.i64 1)) 3, type := 3, pos := "rule.go:23", after := #[{ on := 1, ground := Ground.data }], guard := none }) (v := ?_) rfl (by kernel_rfl) (by kernel_rfl) (by kernel_rfl) (fun _ _ _ h => h) (Or.inl ⟨by rfl, ?_⟩) hHeld ?_
        rotate_left
        · intro w hSw
          try dsimp only at hSw
          go_simp
          try with_reducible rfl
        try simp only [Act.put, List.setIfInBounds_toArray, List.set_cons_zero, List.set_cons_succ]
        refine wpAnyH_take (i := 3) (oi := { dst := some 13, op := Op.indexAddr 106 (Operand.tmp 10) (Operand.tmp 12), type := 0, pos := "rule.go:23", after := #[{ on := 0, ground := Ground.data }, { on := 2, ground := Ground.data }], guard := none }) (v := ?_) rfl (by kernel_rfl) (by kernel_rfl) (by kernel_rfl) (fun _ _ _ h => h) (Or.inl ⟨by rfl, ?_⟩) hHeld ?_
        rotate_left
        · intro w hSw
          try dsimp only at hSw
          go_simp
          try with_reducible rfl
        try simp only [Act.put, List.setIfInBounds_toArray, List.set_cons_zero, List.set_cons_succ]
        refine wpAnyH_take (i := 4) (oi := { dst := some 14, op := Op.load 3 (Operand.tmp 13), type := 3, pos := "rule.go:23", after := #[{ on := 3, ground := Ground.data }], guard := none }) (v := ?_) rfl (by kernel_rfl) (by kernel_rfl) (by kernel_rfl) (fun _ _ _ h => h) (Or.inl ⟨by rfl, ?_⟩) hHeld ?_
        rotate_left
        · intro w hSw
          try dsimp only at hSw
          go_simp
          try with_reducible rfl
        try simp only [Act.put, List.setIfInBounds_toArray, List.set_cons_zero, List.set_cons_succ]
        refine wpAnyH_take (i := 5) (oi := { dst := some 15, op := Op.move (Operand.tmp 0), type := 106, pos := "rule.go:23", after := #[], guard := none }) (v := ?_) rfl (by kernel_rfl) (by kernel_rfl) (by kernel_rfl) (fun _ _ _ h => h) (Or.inl ⟨by rfl, ?_⟩) hHeld ?_
        rotate_left
        · intro w hSw
          try dsimp only at hSw
          go_simp
          try with_reducible rfl
        try simp only [Act.put, List.setIfInBounds_toArray, List.set_cons_zero, List.set_cons_succ]
        refine wpAnyH_take (i := 6) (oi := { dst := some 16, op := Op.move (Operand.tmp 3), type := 3, pos := "rule.go:23", after := #[], guard := none }) (v := ?_) rfl (by kernel_rfl) (by kernel_rfl) (by kernel_rfl) (fun _ _ _ h => h) (Or.inl ⟨by rfl, ?_⟩) hHeld ?_
        rotate_left
        · intro w hSw
          try dsimp only at hSw
          go_simp
          try with_reducible rfl
        try simp only [Act.put, List.setIfInBounds_toArray, List.set_cons_zero, List.set_cons_succ]
        refine wpAnyH_take (i := 7) (oi := { dst := some 17, op := Op.indexAddr 106 (Operand.tmp 15) (Operand.tmp 16), type := 0, pos := "rule.go:23", after := #[{ on := 5, ground := Ground.data }, { on := 6, ground := Ground.data }], guard := none }) (v := ?_) rfl (by kernel_rfl) (by kernel_rfl) (by kernel_rfl) (fun _ _ _ h => h) (Or.inl ⟨by rfl, ?_⟩) hHeld ?_
        rotate_left
        · intro w hSw
          try dsimp only at hSw
          go_simp
          try with_reducible rfl
        try simp only [Act.put, List.setIfInBounds_toArray, List.set_cons_zero, List.set_cons_succ]
        refine wpAnyH_take (i := 8) (oi := { dst := some 18, op := Op.load 3 (Operand.tmp 17), type := 3, pos := "rule.go:23", after := #[{ on := 7, ground := Ground.data }], guard := none }) (v := ?_) rfl (by kernel_rfl) (by kernel_rfl) (by kernel_rfl) (fun _ _ _ h => h) (Or.inl ⟨by rfl, ?_⟩) hHeld ?_
        rotate_left
        · intro w hSw
          try dsimp only at hSw
          go_simp
          try with_reducible rfl
        try simp only [Act.put, List.setIfInBounds_toArray, List.set_cons_zero, List.set_cons_succ]
        refine wpAnyH_take (i := 9) (oi := { dst := some 19, op := Op.binOp BinOp.gtr 3 (Operand.tmp 14) (Operand.tmp 18) 3, type := 4, pos := "rule.go:23", after := #[{ on := 4, ground := Ground.data }, { on := 8, ground := Ground.data }], guard := none }) (v := ?_) rfl (by kernel_rfl) (by kernel_rfl) (by kernel_rfl) (fun _ _ _ h => h) (Or.inl ⟨by rfl, ?_⟩) hHeld ?_
        rotate_left
        · intro w hSw
          try dsimp only at hSw
          go_simp
          try with_reducible rfl
        try simp only [Act.put, List.setIfInBounds_toArray, List.set_cons_zero, List.set_cons_succ]
        refine wpAnyH_done (by kernel_rfl) ?_ _
        clear hHeld a1 a3 a4
        go_wp2_with fail
        go_roundw
        case rel => exact ⟨j + 1, by go_num, by omega, hY2.out, hb.drew⟩
        case measure => simp [intOf]; omega
    · have hlt' : ¬ (j : Int) + 1 < (n : Int) := by omega
      have hE := Lib.hid (ris_yes (l := l) (fun k hk => HA.out k (by omega)))
      go_wp2_with fail
      go_ret
      exact ⟨by rw [hE.out]; rfl, hb⟩
/-- a character of a text -/
def chr (s : ByteArray) (i : Nat) : Int := ((s.data.toList.getD i 0).toNat : Int)
theorem chr_at {s : ByteArray} {i : Nat} (h : i < s.size) : (s[i].toNat : Int) = chr s i := by
  unfold chr
  rw [List.getD_eq_getElem?_getD, List.getElem?_eq_getElem (by simpa using h)]
  rfl
theorem chr_bd (s : ByteArray) (i : Nat) : 0 ≤ chr s i ∧ chr s i ≤ 255 := by
  unfold chr; have := (s.data.toList.getD i 0).toNat_lt; omega
def okC (i : Nat) (z : Int) : Bool := decide ((97 ≤ z ∧ z ≤ 122) ∨ (65 ≤ z ∧ z ≤ 90) ∨ z = 95) || (decide ((48 ≤ z ∧ z ≤ 57) ∨ z = 43 ∨ z = 45 ∨ z = 47) && decide (i ≠ 0))
def nmB (s : ByteArray) : Bool := decide (1 ≤ s.size ∧ s.size ≤ 64) && (List.range s.size).all fun i => okC i (chr s i)
theorem nm_no {s : ByteArray} {k : Nat} (hk : k < s.size) (h : okC k (chr s k) = false) : nmB s = false := by
  unfold nmB
  rw [show (List.range s.size).all (fun i => okC i (chr s i)) = false from List.all_eq_false.2 ⟨k, List.mem_range.2 hk, by rw [h]; decide⟩, Bool.and_false]
theorem nm_len {s : ByteArray} (h : ¬ (1 ≤ s.size ∧ s.size ≤ 64)) : nmB s = false := by unfold nmB; rw [decide_eq_false h]; rfl
theorem nm_yes {s : ByteArray} (h : 1 ≤ s.size ∧ s.size ≤ 64) (h2 : ∀ k, k < s.size → okC k (chr s k) = true) : nmB s = true := by
  unfold nmB; rw [decide_eq_true h, Bool.true_and, List.all_eq_true]; exact fun i hi => h2 i (List.mem_range.1 hi)
theorem ris3 (n : Nat) : risB [1, (n : Int), 64] = decide (1 ≤ n ∧ n ≤ 64) := by
  show ((List.range 2).all fun i => decide (nth [1, (n : Int), 64] i ≤ nth [1, (n : Int), 64] (i + 1))) = _
  show (decide ((1 : Int) ≤ (n : Int)) && (decide ((n : Int) ≤ 64) && true)) = _
  rw [Bool.and_true, ← Bool.decide_and]
  congr 1
  simp; omega
theorem reads3 {w : World} {g : Nat} {t : TypeId} {a b c : Int} (x : Blk w g t #[.int .i64 a, .int .i64 b, .int .i64 c]) : Reads w w.heap.size 1 (some ⟨g, 0, none⟩) 3 (([a, b, c] : List Int).map (Value.int .i64)) := by
  refine ⟨rfl, fun _ => ⟨_, rfl, x.lt, fun j u hu => ?_⟩⟩
  have e : (⟨g, 0, none⟩ : Addr).add j = ⟨g, j, none⟩ := by unfold Addr.add; split <;> simp_all
  rw [e, x.cell]
  simpa using hu
theorem ris_call {w : World} {g : Nat} {t : TypeId} {n : Nat} (x : Blk w g t #[.int .i64 1, .int .i64 n, .int .i64 64]) :
    Calls Tryd.prog 49 #[.slice (some ⟨g, 0, none⟩) 3 3] w fun e w' => e = .returned (.bool (decide (1 ≤ n ∧ n ≤ 64))) ∧ Below w.heap.size w w' := by
  have := rising_any (some ⟨g, 0, none⟩) 3 3 [1, (n : Int), 64] w (reads3 x) (by decide) (by decide)
  rwa [ris3] at this
set_option maxRecDepth 20000 in
set_option maxHeartbeats 6400000 in
theorem name_any (s : ByteArray) (w : World) (hs : s.size ≤ maxLen) :
    Calls Tryd.prog 34 #[.string s] w fun e w' => e = .returned (.bool (nmB s)) ∧ Below w.heap.size w w' := by
  unfold maxLen at hs
  have b1 := (Below.refl w.heap.size w).alloc (Nat.le_refl _) (.cells #[.int .i64 1, .int .i64 s.size, .int .i64 64] 3)
  have x1 := Blk.new w 3 #[.int .i64 1, .int .i64 s.size, .int .i64 64]
  have hri := ris_call x1
  by_cases hlen : 1 ≤ s.size ∧ s.size ≤ 64
  rotate_left
  · have hE := Lib.hid (nm_len hlen)
    rw [decide_eq_false hlen] at hri
    clear hlen
    go_enter Tryd.func34, Tryd.ntmps34
    go_wp2_with fail
    refine hri.mono ?_; rintro e w2 ⟨rfl, hb2⟩
    have b2 := b1.trans (hb2.mono b1.size)
    go_wp2_with fail
    go_ret
    exact ⟨by rw [hE.out]; rfl, b2⟩
  rw [decide_eq_true hlen] at hri
  have HY := Lib.hid (fun h => nm_yes hlen h)
  go_enter Tryd.func34, Tryd.ntmps34
  go_wp2_with fail
  refine hri.mono ?_; rintro e w2 ⟨rfl, hb2⟩
  have b2 := b1.trans (hb2.mono b1.size)
  clear b1 x1 hri hb2
  go_wp2_with fail
  go_loop [12] (fun i => ∃ k : Nat, i = .int .i64 k ∧ k ≤ s.size ∧ (∀ j, j < k → okC j (chr s j) = true)) (fun i => s.size - (intOf i).toNat)
  case atStart => exact ⟨0, rfl, Nat.zero_le _, fun _ h => absurd h (Nat.not_lt_zero _)⟩
  case round =>
    obtain ⟨k, rfl, hk, hall⟩ := hrel
    have HA := Lib.hid hall; clear hall
    by_cases hlt : k < s.size
    · have hlt' : (k : Int) < (s.size : Int) := by omega
      have HNo := Lib.hid (fun h => nm_no hlt h)
      have HYs := Lib.hid (fun (h : okC k (chr s k) = true) j (hj : j < k + 1) => (show okC j (chr s j) = true by
        by_cases e : j = k
        · rw [e]; exact h
        · exact HA.out j (by omega)))
      obtain ⟨z0, z1⟩ := chr_bd s k
      have hz := chr_at hlt
      rw [← hz] at HNo HYs z0 z1
      clear hz HA HY
      rcases (show ((s[k].toNat : Int) ≤ 42) ∨ ((s[k].toNat : Int) = 43) ∨ ((s[k].toNat : Int) = 44) ∨ ((s[k].toNat : Int) = 45) ∨ ((s[k].toNat : Int) = 46) ∨ ((s[k].toNat : Int) = 47) ∨ (48 ≤ (s[k].toNat : Int) ∧ (s[k].toNat : Int) ≤ 57) ∨ (58 ≤ (s[k].toNat : Int) ∧ (s[k].toNat : Int) ≤ 64) ∨ (65 ≤ (s[k].toNat : Int) ∧ (s[k].toNat : Int) ≤ 90) ∨ (91 ≤ (s[k].toNat : Int) ∧ (s[k].toNat : Int) ≤ 94) ∨ ((s[k].toNat : Int) = 95) ∨ ((s[k].toNat : Int) = 96) ∨ (97 ≤ (s[k].toNat : Int) ∧ (s[k].toNat : Int) ≤ 122) ∨ (123 ≤ (s[k].toNat : Int)) by omega) with g | g | g | g | g | g | g | g | g | g | g | g | g | g
      · -- z ≤ 42
        have : ¬ 97 ≤ (s[k].toNat : Int) := by omega
        have : (s[k].toNat : Int) ≤ 122 := by omega
        have : ¬ 65 ≤ (s[k].toNat : Int) := by omega
        have : (s[k].toNat : Int) ≤ 90 := by omega
        have : ¬ 48 ≤ (s[k].toNat : Int) := by omega
        have : (s[k].toNat : Int) ≤ 57 := by omega
        have : ((s[k].toNat : Int) == 95) = false := by simp; omega
        have : ((s[k].toNat : Int) == 43) = false := by simp; omega
        have : ((s[k].toNat : Int) == 45) = false := by simp; omega
        have : ((s[k].toNat : Int) == 47) = false := by simp; omega
        have hE := Lib.hid (HNo.out (by unfold okC; simp; omega))
        clear HYs HNo g
        go_wp2_with fail
        go_ret
        exact ⟨by rw [hE.out]; rfl, b2⟩
      · -- z = 43
        have : ¬ 97 ≤ (s[k].toNat : Int) := by omega
        have : (s[k].toNat : Int) ≤ 122 := by omega
        have : ¬ 65 ≤ (s[k].toNat : Int) := by omega
        have : (s[k].toNat : Int) ≤ 90 := by omega
        have : ¬ 48 ≤ (s[k].toNat : Int) := by omega
        have : (s[k].toNat : Int) ≤ 57 := by omega
        have : ((s[k].toNat : Int) == 95) = false := by simp; omega
        have : ((s[k].toNat : Int) == 43) = true := by simp; omega
        have : ((s[k].toNat : Int) == 45) = false := by simp; omega
        have : ((s[k].toNat : Int) == 47) = false := by simp; omega
        by_cases hk0 : k = 0
        · have hE := Lib.hid (HNo.out (by unfold okC; rw [decide_eq_false (show ¬ k ≠ 0 by omega), Bool.and_false, Bool.or_false]; exact decide_eq_false (by omega)))
          have hkb : ((k : Int) == 0) = true := by simp [hk0]
          clear HYs HNo g hk0
          go_wp2_with fail
          go_ret
          exact ⟨by rw [hE.out]; rfl, b2⟩
        · have hY := Lib.hid (HYs.out (by unfold okC; simp [hk0]; omega))
          have hkb : ((k : Int) == 0) = false := by simp [hk0]
          clear HYs HNo g hk0
          go_wp2_with fail
          go_round
          case rel => exact ⟨k + 1, by go_num, by omega, hY.out⟩
          case measure => simp [intOf]; omega
      · -- z = 44
        have : ¬ 97 ≤ (s[k].toNat : Int) := by omega
        have : (s[k].toNat : Int) ≤ 122 := by omega
        have : ¬ 65 ≤ (s[k].toNat : Int) := by omega
        have : (s[k].toNat : Int) ≤ 90 := by omega
        have : ¬ 48 ≤ (s[k].toNat : Int) := by omega
        have : (s[k].toNat : Int) ≤ 57 := by omega
        have : ((s[k].toNat : Int) == 95) = false := by simp; omega
        have : ((s[k].toNat : Int) == 43) = false := by simp; omega
        have : ((s[k].toNat : Int) == 45) = false := by simp; omega
        have : ((s[k].toNat : Int) == 47) = false := by simp; omega
        have hE := Lib.hid (HNo.out (by unfold okC; simp; omega))
        clear HYs HNo g
        go_wp2_with fail
        go_ret
        exact ⟨by rw [hE.out]; rfl, b2⟩
      · -- z = 45
        have : ¬ 97 ≤ (s[k].toNat : Int) := by omega
        have : (s[k].toNat : Int) ≤ 122 := by omega
        have : ¬ 65 ≤ (s[k].toNat : Int) := by omega
        have : (s[k].toNat : Int) ≤ 90 := by omega
        have : ¬ 48 ≤ (s[k].toNat : Int) := by omega
        have : (s[k].toNat : Int) ≤ 57 := by omega
        have : ((s[k].toNat : Int) == 95) = false := by simp; omega
        have : ((s[k].toNat : Int) == 43) = false := by simp; omega
        have : ((s[k].toNat : Int) == 45) = true := by simp; omega
        have : ((s[k].toNat : Int) == 47) = false := by simp; omega
        by_cases hk0 : k = 0
        · have hE := Lib.hid (HNo.out (by unfold okC; rw [decide_eq_false (show ¬ k ≠ 0 by omega), Bool.and_false, Bool.or_false]; exact decide_eq_false (by omega)))
          have hkb : ((k : Int) == 0) = true := by simp [hk0]
          clear HYs HNo g hk0
          go_wp2_with fail
          go_ret
          exact ⟨by rw [hE.out]; rfl, b2⟩
        · have hY := Lib.hid (HYs.out (by unfold okC; simp [hk0]; omega))
          have hkb : ((k : Int) == 0) = false := by simp [hk0]
          clear HYs HNo g hk0
          go_wp2_with fail
          go_round
          case rel => exact ⟨k + 1, by go_num, by omega, hY.out⟩
          case measure => simp [intOf]; omega
      · -- z = 46
        have : ¬ 97 ≤ (s[k].toNat : Int) := by omega
        have : (s[k].toNat : Int) ≤ 122 := by omega
        have : ¬ 65 ≤ (s[k].toNat : Int) := by omega
        have : (s[k].toNat : Int) ≤ 90 := by omega
        have : ¬ 48 ≤ (s[k].toNat : Int) := by omega
        have : (s[k].toNat : Int) ≤ 57 := by omega
        have : ((s[k].toNat : Int) == 95) = false := by simp; omega
        have : ((s[k].toNat : Int) == 43) = false := by simp; omega
        have : ((s[k].toNat : Int) == 45) = false := by simp; omega
        have : ((s[k].toNat : Int) == 47) = false := by simp; omega
        have hE := Lib.hid (HNo.out (by unfold okC; simp; omega))
        clear HYs HNo g
        go_wp2_with fail
        go_ret
        exact ⟨by rw [hE.out]; rfl, b2⟩
      · -- z = 47
        have : ¬ 97 ≤ (s[k].toNat : Int) := by omega
        have : (s[k].toNat : Int) ≤ 122 := by omega
        have : ¬ 65 ≤ (s[k].toNat : Int) := by omega
        have : (s[k].toNat : Int) ≤ 90 := by omega
        have : ¬ 48 ≤ (s[k].toNat : Int) := by omega
        have : (s[k].toNat : Int) ≤ 57 := by omega
        have : ((s[k].toNat : Int) == 95) = false := by simp; omega
        have : ((s[k].toNat : Int) == 43) = false := by simp; omega
        have : ((s[k].toNat : Int) == 45) = false := by simp; omega
        have : ((s[k].toNat : Int) == 47) = true := by simp; omega
        by_cases hk0 : k = 0
        · have hE := Lib.hid (HNo.out (by unfold okC; rw [decide_eq_false (show ¬ k ≠ 0 by omega), Bool.and_false, Bool.or_false]; exact decide_eq_false (by omega)))
          have hkb : ((k : Int) == 0) = true := by simp [hk0]
          clear HYs HNo g hk0
          go_wp2_with fail
          go_ret
          exact ⟨by rw [hE.out]; rfl, b2⟩
        · have hY := Lib.hid (HYs.out (by unfold okC; simp [hk0]; omega))
          have hkb : ((k : Int) == 0) = false := by simp [hk0]
          clear HYs HNo g hk0
          go_wp2_with fail
          go_round
          case rel => exact ⟨k + 1, by go_num, by omega, hY.out⟩
          case measure => simp [intOf]; omega
      · -- 48 ≤ z ∧ z ≤ 57
        have : ¬ 97 ≤ (s[k].toNat : Int) := by omega
        have : (s[k].toNat : Int) ≤ 122 := by omega
        have : ¬ 65 ≤ (s[k].toNat : Int) := by omega
        have : (s[k].toNat : Int) ≤ 90 := by omega
        have : 48 ≤ (s[k].toNat : Int) := by omega
        have : (s[k].toNat : Int) ≤ 57 := by omega
        have : ((s[k].toNat : Int) == 95) = false := by simp; omega
        have : ((s[k].toNat : Int) == 43) = false := by simp; omega
        have : ((s[k].toNat : Int) == 45) = false := by simp; omega
        have : ((s[k].toNat : Int) == 47) = false := by simp; omega
        by_cases hk0 : k = 0
        · have hE := Lib.hid (HNo.out (by unfold okC; rw [decide_eq_false (show ¬ k ≠ 0 by omega), Bool.and_false, Bool.or_false]; exact decide_eq_false (by omega)))
          have hkb : ((k : Int) == 0) = true := by simp [hk0]
          clear HYs HNo g hk0
          go_wp2_with fail
          go_ret
          exact ⟨by rw [hE.out]; rfl, b2⟩
        · have hY := Lib.hid (HYs.out (by unfold okC; simp [hk0]; omega))
          have hkb : ((k : Int) == 0) = false := by simp [hk0]
          clear HYs HNo g hk0
          go_wp2_with fail
          go_round
          case rel => exact ⟨k + 1, by go_num, by omega, hY.out⟩
          case measure => simp [intOf]; omega
      · -- 58 ≤ z ∧ z ≤ 64
        have : ¬ 97 ≤ (s[k].toNat : Int) := by omega
        have : (s[k].toNat : Int) ≤ 122 := by omega
        have : ¬ 65 ≤ (s[k].toNat : Int) := by omega
        have : (s[k].toNat : Int) ≤ 90 := by omega
        have : 48 ≤ (s[k].toNat : Int) := by omega
        have : ¬ (s[k].toNat : Int) ≤ 57 := by omega
        have : ((s[k].toNat : Int) == 95) = false := by simp; omega
        have : ((s[k].toNat : Int) == 43) = false := by simp; omega
        have : ((s[k].toNat : Int) == 45) = false := by simp; omega
        have : ((s[k].toNat : Int) == 47) = false := by simp; omega
        have hE := Lib.hid (HNo.out (by unfold okC; simp; omega))
        clear HYs HNo g
        go_wp2_with fail
        go_ret
        exact ⟨by rw [hE.out]; rfl, b2⟩
      · -- 65 ≤ z ∧ z ≤ 90
        have : ¬ 97 ≤ (s[k].toNat : Int) := by omega
        have : (s[k].toNat : Int) ≤ 122 := by omega
        have : 65 ≤ (s[k].toNat : Int) := by omega
        have : (s[k].toNat : Int) ≤ 90 := by omega
        have : 48 ≤ (s[k].toNat : Int) := by omega
        have : ¬ (s[k].toNat : Int) ≤ 57 := by omega
        have : ((s[k].toNat : Int) == 95) = false := by simp; omega
        have : ((s[k].toNat : Int) == 43) = false := by simp; omega
        have : ((s[k].toNat : Int) == 45) = false := by simp; omega
        have : ((s[k].toNat : Int) == 47) = false := by simp; omega
        have hY := Lib.hid (HYs.out (by unfold okC; simp; omega))
        clear HYs HNo g
        go_wp2_with fail
        go_round
        case rel => exact ⟨k + 1, by go_num, by omega, hY.out⟩
        case measure => simp [intOf]; omega
      · -- 91 ≤ z ∧ z ≤ 94
        have : ¬ 97 ≤ (s[k].toNat : Int) := by omega
        have : (s[k].toNat : Int) ≤ 122 := by omega
        have : 65 ≤ (s[k].toNat : Int) := by omega
        have : ¬ (s[k].toNat : Int) ≤ 90 := by omega
        have : 48 ≤ (s[k].toNat : Int) := by omega
        have : ¬ (s[k].toNat : Int) ≤ 57 := by omega
        have : ((s[k].toNat : Int) == 95) = false := by simp; omega
        have : ((s[k].toNat : Int) == 43) = false := by simp; omega
        have : ((s[k].toNat : Int) == 45) = false := by simp; omega
        have : ((s[k].toNat : Int) == 47) = false := by simp; omega
        have hE := Lib.hid (HNo.out (by unfold okC; simp; omega))
        clear HYs HNo g
        go_wp2_with fail
        go_ret
        exact ⟨by rw [hE.out]; rfl, b2⟩
      · -- z = 95
        have : ¬ 97 ≤ (s[k].toNat : Int) := by omega
        have : (s[k].toNat : Int) ≤ 122 := by omega
        have : 65 ≤ (s[k].toNat : Int) := by omega
        have : ¬ (s[k].toNat : Int) ≤ 90 := by omega
        have : 48 ≤ (s[k].toNat : Int) := by omega
        have : ¬ (s[k].toNat : Int) ≤ 57 := by omega
        have : ((s[k].toNat : Int) == 95) = true := by simp; omega
        have : ((s[k].toNat : Int) == 43) = false := by simp; omega
        have : ((s[k].toNat : Int) == 45) = false := by simp; omega
        have : ((s[k].toNat : Int) == 47) = false := by simp; omega
        have hY := Lib.hid (HYs.out (by unfold okC; simp; omega))
        clear HYs HNo g
        go_wp2_with fail
        go_round
        case rel => exact ⟨k + 1, by go_num, by omega, hY.out⟩
        case measure => simp [intOf]; omega
      · -- z = 96
        have : ¬ 97 ≤ (s[k].toNat : Int) := by omega
        have : (s[k].toNat : Int) ≤ 122 := by omega
        have : 65 ≤ (s[k].toNat : Int) := by omega
        have : ¬ (s[k].toNat : Int) ≤ 90 := by omega
        have : 48 ≤ (s[k].toNat : Int) := by omega
        have : ¬ (s[k].toNat : Int) ≤ 57 := by omega
        have : ((s[k].toNat : Int) == 95) = false := by simp; omega
        have : ((s[k].toNat : Int) == 43) = false := by simp; omega
        have : ((s[k].toNat : Int) == 45) = false := by simp; omega
        have : ((s[k].toNat : Int) == 47) = false := by simp; omega
        have hE := Lib.hid (HNo.out (by unfold okC; simp; omega))
        clear HYs HNo g
        go_wp2_with fail
        go_ret
        exact ⟨by rw [hE.out]; rfl, b2⟩
      · -- 97 ≤ z ∧ z ≤ 122
        have : 97 ≤ (s[k].toNat : Int) := by omega
        have : (s[k].toNat : Int) ≤ 122 := by omega
        have : 65 ≤ (s[k].toNat : Int) := by omega
        have : ¬ (s[k].toNat : Int) ≤ 90 := by omega
        have : 48 ≤ (s[k].toNat : Int) := by omega
        have : ¬ (s[k].toNat : Int) ≤ 57 := by omega
        have : ((s[k].toNat : Int) == 95) = false := by simp; omega
        have : ((s[k].toNat : Int) == 43) = false := by simp; omega
        have : ((s[k].toNat : Int) == 45) = false := by simp; omega
        have : ((s[k].toNat : Int) == 47) = false := by simp; omega
        have hY := Lib.hid (HYs.out (by unfold okC; simp; omega))
        clear HYs HNo g
        go_wp2_with fail
        go_round
        case rel => exact ⟨k + 1, by go_num, by omega, hY.out⟩
        case measure => simp [intOf]; omega
      · -- 123 ≤ z
        have : 97 ≤ (s[k].toNat : Int) := by omega
        have : ¬ (s[k].toNat : Int) ≤ 122 := by omega
        have : 65 ≤ (s[k].toNat : Int) := by omega
        have : ¬ (s[k].toNat : Int) ≤ 90 := by omega
        have : 48 ≤ (s[k].toNat : Int) := by omega
        have : ¬ (s[k].toNat : Int) ≤ 57 := by omega
        have : ((s[k].toNat : Int) == 95) = false := by simp; omega
        have : ((s[k].toNat : Int) == 43) = false := by simp; omega
        have : ((s[k].toNat : Int) == 45) = false := by simp; omega
        have : ((s[k].toNat : Int) == 47) = false := by simp; omega
        have hE := Lib.hid (HNo.out (by unfold okC; simp; omega))
        clear HYs HNo g
        go_wp2_with fail
        go_ret
        exact ⟨by rw [hE.out]; rfl, b2⟩
    · have hlt' : ¬ (k : Int) < (s.size : Int) := by omega
      have hE := Lib.hid (HY.out (fun j hj => HA.out j (by omega)))
      clear HY HA
      go_wp2_with fail
      go_ret
      exact ⟨by rw [hE.out]; rfl, b2⟩
end Go.Proofs.YtgflodjohaemiaaDoor.Nv
