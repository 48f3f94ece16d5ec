/-
  LISTS OF WHAT IS MISSED, compared: walked.
-/
import Derived.Test.YtefcjccapekjdaaDoorSqM
import Derived.Test.YtefcjccapekjdaaDoorLd
import Derived.Deep.RegionHeld3
import Derived.BigQuiet
namespace Go.Proofs.YtefcjccapekjdaaDoor.Sq
open Go.ChangeShapes Go.WideShapes Go.ChangeAt Go.RowKit
open Go.Proofs.YtefcjccapekjdaaDoor
open Go.Proofs.YtefcjccapekjdaaDoor.Wd
open Go.Proofs.YtefcjccapekjdaaDoor.Rec
open Go.Proofs.YtefcjccapekjdaaDoor.Yr
open Go.Proofs.YtefcjccapekjdaaDoor.Clk (yrV yrE)
open Go.Proofs.YtefcjccapekjdaaDoor.Civ (Tab Inv)
set_option linter.unusedVariables false
open Go.Proofs.YtefcjccapekjdaaDoor.Tb
open Go.Proofs.YtefcjccapekjdaaDoor.Ld
set_option linter.unusedSimpArgs false
theorem ldMi_sem (v : Value) : Instr.loadAt 89 v = ldSem 89 v := rfl
attribute [local go_sem ↓] ldMi_sem
attribute [local go_sem] ldSem_run
/-- a slice that reads a list of what is missed -/
def Mis (w : World) (B : Nat) (A : Option Addr) (n : Nat) (key : ByteArray) (l : List (Int × Int)) : Prop := l.length = n ∧ Reads w B 3 A n (flatM key l)
theorem Mis.below {w w' : World} {B n : Nat} {A : Option Addr} {key : ByteArray} {l : List (Int × Int)} (h : Mis w B A n key l) (hb : Below B w w') : Mis w' B A n key l := ⟨h.1, h.2.below hb⟩
theorem Mis.more {w : World} {B B' n : Nat} {A : Option Addr} {key : ByteArray} {l : List (Int × Int)} (h : Mis w B A n key l) (hb : B ≤ B') : Mis w B' A n key l := ⟨h.1, h.2.more hb⟩
abbrev mi_ (l : List (Int × Int)) (k : Nat) : Int × Int := l.getD k (0, 0)
theorem flatM_at (key : ByteArray) : ∀ (l : List (Int × Int)) (k j : Nat), k < l.length → j < 3 → (flatM key l)[k * 3 + j]? = (miA key (mi_ l k))[j]?
  | [], k, j, h, _ => absurd h (Nat.not_lt_zero _)
  | m :: t, 0, j, _, hj => by
    show ((miA key m).toList ++ flatM key t)[0 * 3 + j]? = _
    rw [List.getElem?_append_left (by show _ < 3; omega), Nat.zero_mul, Nat.zero_add, Array.getElem?_toList]; rfl
  | m :: t, k + 1, j, h, hj => by
    show ((miA key m).toList ++ flatM key t)[(k + 1) * 3 + j]? = _
    rw [List.getElem?_append_right (by show 3 ≤ _; omega)]
    show (flatM key t)[(k + 1) * 3 + j - 3]? = _
    rw [show (k + 1) * 3 + j - 3 = k * 3 + j by omega]
    exact flatM_at key t k j (by simpa using h) hj
theorem Mis.row {w : World} {B n k : Nat} {A : Option Addr} {key : ByteArray} {l : List (Int × Int)} (h : Mis w B A n key l) (hk : k < n) : ∃ ad, A = some ad ∧ Row w B (ad.add (k * 3)) (miA key (mi_ l k)) := by
  obtain ⟨hlen, hr⟩ := h
  obtain ⟨ad, rfl, hb, hc⟩ := hr.2 (by omega)
  refine ⟨ad, rfl, by rw [block_of_add]; exact hb, fun j v hv => ?_⟩
  rw [add_of_add]
  have hj : j < 3 := by
    rcases Nat.lt_or_ge j 3 with g | g
    · exact g
    · rw [Array.getElem?_eq_none (by show 3 ≤ j; omega)] at hv; cases hv
  refine hc _ _ ?_
  rw [flatM_at key l k j (by omega) hj]; exact hv
theorem ld_mi {w : World} {B : Nat} {p : Addr} {key : ByteArray} {m : Int × Int} (h : Row w B p (miA key m)) : ldT 89 (.pointer (some p)) w = some (miA key m) := by
  refine ldT_of ?_
  have := run_loadVar_at (P := Tryd.prog) w B p 89 (miA key m) _ h Tryd.underlying89 rfl (by kernel_rfl)
  simp only [Instr.loadAt, Instr.sureAddr, Sem.run_bind, Sem.run_pure, Result.andThen_ok, this]
def eqM (a b : Int × Int) : Bool := a.1 == b.1 && a.2 == b.2
theorem eqM_iff {a b : Int × Int} : eqM a b = true ↔ a = b := by
  obtain ⟨a1, a2⟩ := a; obtain ⟨b1, b2⟩ := b
  simp [eqM]
theorem eqIn_mi (d : Nat) (key : ByteArray) (a b : Int × Int) (w : World) : (Op.equalIn (d + 2) 89 (.agg (miA key a)) (.agg (miA key b))).run Tryd.prog w = .ok (eqM a b) w := by
  rw [run_equalIn_agg w (d + 1) _ (miA key a) (miA key b) (by kernel_rfl) (by kernel_rfl)]
  go_simp
  unfold eqM
  by_cases h : a.1 = b.1 <;> by_cases h2 : a.2 = b.2 <;> simp [h, h2]
theorem neq_mi (key : ByteArray) (a b : Int × Int) : (binOp .neq 89 (.agg (miA key a)) (.agg (miA key b))).run Tryd.prog = fun w => .ok (.bool (!eqM a b)) w := by
  funext w
  rw [run_neq_struct, eqIn_mi 9998]; rfl
def eqMs (l m : List (Int × Int)) : Bool := decide (l.length = m.length) && (List.range l.length).all fun i => eqM (mi_ l i) (mi_ m i)
theorem eqMs_len {l m : List (Int × Int)} (h : l.length ≠ m.length) : eqMs l m = false := by unfold eqMs; rw [decide_eq_false h]; rfl
theorem eqMs_no {l m : List (Int × Int)} {k : Nat} (hk : k < l.length) (h : eqM (mi_ l k) (mi_ m k) = false) : eqMs l m = false := by
  unfold eqMs
  cases hd : decide (l.length = m.length) with
  | false => rfl
  | true => rw [Bool.true_and, List.all_eq_false]; exact ⟨k, List.mem_range.2 hk, by rw [h]; decide⟩
theorem eqMs_yes {l m : List (Int × Int)} (hl : l.length = m.length) (h : ∀ k, k < l.length → eqM (mi_ l k) (mi_ m k) = true) : eqMs l m = true := by
  unfold eqMs; rw [decide_eq_true hl, Bool.true_and, List.all_eq_true]; exact fun i hi => h i (List.mem_range.1 hi)
theorem eqMs_self (l : List (Int × Int)) : eqMs l l = true := eqMs_yes rfl fun _ _ => eqM_iff.2 rfl
set_option maxRecDepth 100000 in
set_option maxHeartbeats 6400000 in
attribute [-go_sem] run_eql_struct run_neq_struct in
theorem msame_any (A A2 : Option Addr) (n n2 c c2 : Nat) (key : ByteArray) (l m : List (Int × Int)) (w : World) (hR : Mis w w.heap.size A n key l) (hR2 : Mis w w.heap.size A2 n2 key m) (hm : n ≤ maxLen) (hm2 : n2 ≤ maxLen) :
    Calls Tryd.prog 58 #[.slice A n c, .slice A2 n2 c2] w fun e w' => e = .returned (.bool (eqMs l m)) ∧ Below w.heap.size w w' := by
  unfold maxLen at hm hm2
  have hln := hR.1; have hln2 := hR2.1
  by_cases hn : n = n2
  · subst hn
    have hne : ((n : Int) != (n : Int)) = false := by simp
    go_enter Tryd.func58, Tryd.ntmps58
    go_wp2_with fail
    go_loopw [13] (fun i wr => ∃ k : Nat, i = .int .i64 k ∧ k ≤ n ∧ (∀ j, j < k → eqM (mi_ l j) (mi_ m j) = true) ∧ Below w.heap.size w wr) (fun i _ => n - (intOf i).toNat)
    case atStart => exact ⟨0, rfl, Nat.zero_le _, fun j hj => absurd hj (Nat.not_lt_zero _), Below.refl _ _⟩
    case round =>
      obtain ⟨k, rfl, hk, hall, hb⟩ := hrel
      have HA := Lib.hid hall; clear hall
      by_cases hlt : k < n
      · have hlt' : (k : Int) < (n : Int) := by omega
        obtain ⟨ad, rfl, r1⟩ := (hR.below hb.drew).row hlt
        obtain ⟨bd, rfl, r2⟩ := (hR2.below hb.drew).row hlt
        have HE := Lib.hid (fun h => eqMs_no (l := l) (m := m) (k := k) (by omega) h)
        have HN := Lib.hid (fun (q : eqM (mi_ l k) (mi_ m k) = true) => (show ∀ j, j < k + 1 → eqM (mi_ l j) (mi_ m j) = true from fun j hj => by
          by_cases e : j = k
          · subst e; exact q
          · exact HA.out j (by omega)))
        generalize mi_ l k = a at *
        generalize mi_ m k = b at *
        have hq := neq_mi key a b
        go_upto_region 6 with fail
        cases he : eqM a b with
        | false =>
          rw [he] at hq
          have hE := Lib.hid (HE.out he)
          clear he HE HN HA
          refine wp_region_held_drew (S := fun w' => ldT 89 (.pointer (some (ad.add (k * 3)))) w' = some (miA key a) ∧ ldT 89 (.pointer (some (bd.add (k * 3)))) w' = some (miA key b)) (by kernel_rfl) (⟨ld_mi r1, ld_mi r2⟩) (fun hHeld => ?_)
          refine wpAnyH_take (i := 0) (oi := { dst := some 16, op := Op.move (Operand.tmp 0), type := 81, pos := "ref.go:58", after := #[], guard := none }) (v := ?_) rfl (by kernel_rfl) (by kernel_rfl) (by kernel_rfl) (fun _ _ _ h => h) (Or.inl ⟨by rfl, ?_⟩) hHeld ?_
          rotate_left
          · intro w hSw
            try dsimp only at hSw
            go_simp
            try with_reducible rfl
          try simp only [Act.put, List.setIfInBounds_toArray, List.set_cons_zero, List.set_cons_succ]
          refine wpAnyH_take (i := 1) (oi := { dst := some 17, op := Op.move (Operand.tmp 5), type := 3, pos := "ref.go:58", after := #[], guard := none }) (v := ?_) rfl (by kernel_rfl) (by kernel_rfl) (by kernel_rfl) (fun _ _ _ h => h) (Or.inl ⟨by rfl, ?_⟩) hHeld ?_
          rotate_left
          · intro w hSw
            try dsimp only at hSw
            go_simp
            try with_reducible rfl
          try simp only [Act.put, List.setIfInBounds_toArray, List.set_cons_zero, List.set_cons_succ]
          refine wpAnyH_take (i := 2) (oi := { dst := some 18, op := Op.indexAddr 81 (Operand.tmp 16) (Operand.tmp 17), type := 0, pos := "ref.go:58", after := #[{ on := 0, ground := Ground.data }, { on := 1, ground := Ground.data }], guard := none }) (v := ?_) rfl (by kernel_rfl) (by kernel_rfl) (by kernel_rfl) (fun _ _ _ h => h) (Or.inl ⟨by rfl, ?_⟩) hHeld ?_
          rotate_left
          · intro w hSw
            try dsimp only at hSw
            go_simp
            try with_reducible rfl
          try simp only [Act.put, List.setIfInBounds_toArray, List.set_cons_zero, List.set_cons_succ]
          refine wpAnyH_take (i := 3) (oi := { dst := some 19, op := Op.load 89 (Operand.tmp 18), type := 89, pos := "ref.go:58", after := #[{ on := 2, ground := Ground.data }], guard := none }) (v := ?_) rfl (by kernel_rfl) (by kernel_rfl) (by kernel_rfl) (fun _ _ _ h => h) (Or.inl ⟨by rfl, ?_⟩) hHeld ?_
          rotate_left
          · intro w hSw
            try dsimp only at hSw
            go_simp
            try with_reducible rfl
          try simp only [Act.put, List.setIfInBounds_toArray, List.set_cons_zero, List.set_cons_succ]
          refine wpAnyH_take (i := 4) (oi := { dst := some 20, op := Op.move (Operand.tmp 1), type := 81, pos := "ref.go:58", after := #[], guard := none }) (v := ?_) rfl (by kernel_rfl) (by kernel_rfl) (by kernel_rfl) (fun _ _ _ h => h) (Or.inl ⟨by rfl, ?_⟩) hHeld ?_
          rotate_left
          · intro w hSw
            try dsimp only at hSw
            go_simp
            try with_reducible rfl
          try simp only [Act.put, List.setIfInBounds_toArray, List.set_cons_zero, List.set_cons_succ]
          refine wpAnyH_take (i := 5) (oi := { dst := some 21, op := Op.move (Operand.tmp 5), type := 3, pos := "ref.go:58", after := #[], guard := none }) (v := ?_) rfl (by kernel_rfl) (by kernel_rfl) (by kernel_rfl) (fun _ _ _ h => h) (Or.inl ⟨by rfl, ?_⟩) hHeld ?_
          rotate_left
          · intro w hSw
            try dsimp only at hSw
            go_simp
            try with_reducible rfl
          try simp only [Act.put, List.setIfInBounds_toArray, List.set_cons_zero, List.set_cons_succ]
          refine wpAnyH_take (i := 6) (oi := { dst := some 22, op := Op.indexAddr 81 (Operand.tmp 20) (Operand.tmp 21), type := 0, pos := "ref.go:58", after := #[{ on := 4, ground := Ground.data }, { on := 5, ground := Ground.data }], guard := none }) (v := ?_) rfl (by kernel_rfl) (by kernel_rfl) (by kernel_rfl) (fun _ _ _ h => h) (Or.inl ⟨by rfl, ?_⟩) hHeld ?_
          rotate_left
          · intro w hSw
            try dsimp only at hSw
            go_simp
            try with_reducible rfl
          try simp only [Act.put, List.setIfInBounds_toArray, List.set_cons_zero, List.set_cons_succ]
          refine wpAnyH_take (i := 7) (oi := { dst := some 23, op := Op.load 89 (Operand.tmp 22), type := 89, pos := "ref.go:58", after := #[{ on := 6, ground := Ground.data }], guard := none }) (v := ?_) rfl (by kernel_rfl) (by kernel_rfl) (by kernel_rfl) (fun _ _ _ h => h) (Or.inl ⟨by rfl, ?_⟩) hHeld ?_
          rotate_left
          · intro w hSw
            try dsimp only at hSw
            go_simp
            try with_reducible rfl
          try simp only [Act.put, List.setIfInBounds_toArray, List.set_cons_zero, List.set_cons_succ]
          refine wpAnyH_take (i := 8) (oi := { dst := some 24, op := Op.binOp BinOp.neq 89 (Operand.tmp 19) (Operand.tmp 23) 89, type := 4, pos := "ref.go:58", after := #[{ on := 3, ground := Ground.data }, { on := 7, ground := Ground.data }], guard := none }) (v := ?_) rfl (by kernel_rfl) (by kernel_rfl) (by kernel_rfl) (fun _ _ _ h => h) (Or.inl ⟨by rfl, ?_⟩) hHeld ?_
          rotate_left
          · intro w hSw
            try dsimp only at hSw
            go_simp
            try with_reducible rfl
          try simp only [Act.put, List.setIfInBounds_toArray, List.set_cons_zero, List.set_cons_succ]
          refine wpAnyH_done (by kernel_rfl) ?_ _
          clear hHeld
          go_wp2_with fail
          go_ret
          exact ⟨by rw [hE.out]; rfl, hb.drew⟩
        | true =>
          rw [he] at hq
          have hN := Lib.hid (HN.out he)
          clear he HE HN HA
          refine wp_region_held_drew (S := fun w' => ldT 89 (.pointer (some (ad.add (k * 3)))) w' = some (miA key a) ∧ ldT 89 (.pointer (some (bd.add (k * 3)))) w' = some (miA key b)) (by kernel_rfl) (⟨ld_mi r1, ld_mi r2⟩) (fun hHeld => ?_)
          refine wpAnyH_take (i := 0) (oi := { dst := some 16, op := Op.move (Operand.tmp 0), type := 81, pos := "ref.go:58", after := #[], guard := none }) (v := ?_) rfl (by kernel_rfl) (by kernel_rfl) (by kernel_rfl) (fun _ _ _ h => h) (Or.inl ⟨by rfl, ?_⟩) hHeld ?_
          rotate_left
          · intro w hSw
            try dsimp only at hSw
            go_simp
            try with_reducible rfl
          try simp only [Act.put, List.setIfInBounds_toArray, List.set_cons_zero, List.set_cons_succ]
          refine wpAnyH_take (i := 1) (oi := { dst := some 17, op := Op.move (Operand.tmp 5), type := 3, pos := "ref.go:58", after := #[], guard := none }) (v := ?_) rfl (by kernel_rfl) (by kernel_rfl) (by kernel_rfl) (fun _ _ _ h => h) (Or.inl ⟨by rfl, ?_⟩) hHeld ?_
          rotate_left
          · intro w hSw
            try dsimp only at hSw
            go_simp
            try with_reducible rfl
          try simp only [Act.put, List.setIfInBounds_toArray, List.set_cons_zero, List.set_cons_succ]
          refine wpAnyH_take (i := 2) (oi := { dst := some 18, op := Op.indexAddr 81 (Operand.tmp 16) (Operand.tmp 17), type := 0, pos := "ref.go:58", after := #[{ on := 0, ground := Ground.data }, { on := 1, ground := Ground.data }], guard := none }) (v := ?_) rfl (by kernel_rfl) (by kernel_rfl) (by kernel_rfl) (fun _ _ _ h => h) (Or.inl ⟨by rfl, ?_⟩) hHeld ?_
          rotate_left
          · intro w hSw
            try dsimp only at hSw
            go_simp
            try with_reducible rfl
          try simp only [Act.put, List.setIfInBounds_toArray, List.set_cons_zero, List.set_cons_succ]
          refine wpAnyH_take (i := 3) (oi := { dst := some 19, op := Op.load 89 (Operand.tmp 18), type := 89, pos := "ref.go:58", after := #[{ on := 2, ground := Ground.data }], guard := none }) (v := ?_) rfl (by kernel_rfl) (by kernel_rfl) (by kernel_rfl) (fun _ _ _ h => h) (Or.inl ⟨by rfl, ?_⟩) hHeld ?_
          rotate_left
          · intro w hSw
            try dsimp only at hSw
            go_simp
            try with_reducible rfl
          try simp only [Act.put, List.setIfInBounds_toArray, List.set_cons_zero, List.set_cons_succ]
          refine wpAnyH_take (i := 4) (oi := { dst := some 20, op := Op.move (Operand.tmp 1), type := 81, pos := "ref.go:58", after := #[], guard := none }) (v := ?_) rfl (by kernel_rfl) (by kernel_rfl) (by kernel_rfl) (fun _ _ _ h => h) (Or.inl ⟨by rfl, ?_⟩) hHeld ?_
          rotate_left
          · intro w hSw
            try dsimp only at hSw
            go_simp
            try with_reducible rfl
          try simp only [Act.put, List.setIfInBounds_toArray, List.set_cons_zero, List.set_cons_succ]
          refine wpAnyH_take (i := 5) (oi := { dst := some 21, op := Op.move (Operand.tmp 5), type := 3, pos := "ref.go:58", after := #[], guard := none }) (v := ?_) rfl (by kernel_rfl) (by kernel_rfl) (by kernel_rfl) (fun _ _ _ h => h) (Or.inl ⟨by rfl, ?_⟩) hHeld ?_
          rotate_left
          · intro w hSw
            try dsimp only at hSw
            go_simp
            try with_reducible rfl
          try simp only [Act.put, List.setIfInBounds_toArray, List.set_cons_zero, List.set_cons_succ]
          refine wpAnyH_take (i := 6) (oi := { dst := some 22, op := Op.indexAddr 81 (Operand.tmp 20) (Operand.tmp 21), type := 0, pos := "ref.go:58", after := #[{ on := 4, ground := Ground.data }, { on := 5, ground := Ground.data }], guard := none }) (v := ?_) rfl (by kernel_rfl) (by kernel_rfl) (by kernel_rfl) (fun _ _ _ h => h) (Or.inl ⟨by rfl, ?_⟩) hHeld ?_
          rotate_left
          · intro w hSw
            try dsimp only at hSw
            go_simp
            try with_reducible rfl
          try simp only [Act.put, List.setIfInBounds_toArray, List.set_cons_zero, List.set_cons_succ]
          refine wpAnyH_take (i := 7) (oi := { dst := some 23, op := Op.load 89 (Operand.tmp 22), type := 89, pos := "ref.go:58", after := #[{ on := 6, ground := Ground.data }], guard := none }) (v := ?_) rfl (by kernel_rfl) (by kernel_rfl) (by kernel_rfl) (fun _ _ _ h => h) (Or.inl ⟨by rfl, ?_⟩) hHeld ?_
          rotate_left
          · intro w hSw
            try dsimp only at hSw
            go_simp
            try with_reducible rfl
          try simp only [Act.put, List.setIfInBounds_toArray, List.set_cons_zero, List.set_cons_succ]
          refine wpAnyH_take (i := 8) (oi := { dst := some 24, op := Op.binOp BinOp.neq 89 (Operand.tmp 19) (Operand.tmp 23) 89, type := 4, pos := "ref.go:58", after := #[{ on := 3, ground := Ground.data }, { on := 7, ground := Ground.data }], guard := none }) (v := ?_) rfl (by kernel_rfl) (by kernel_rfl) (by kernel_rfl) (fun _ _ _ h => h) (Or.inl ⟨by rfl, ?_⟩) hHeld ?_
          rotate_left
          · intro w hSw
            try dsimp only at hSw
            go_simp
            try with_reducible rfl
          try simp only [Act.put, List.setIfInBounds_toArray, List.set_cons_zero, List.set_cons_succ]
          refine wpAnyH_done (by kernel_rfl) ?_ _
          clear hHeld
          go_wp2_with fail
          go_roundw
          case rel => exact ⟨k + 1, by go_num, by omega, hN.out, hb.drew⟩
          case measure => simp [intOf]; omega
      · obtain rfl : n = k := by omega
        have hlt' : ¬ (n : Int) < (n : Int) := by omega
        have hE := Lib.hid (eqMs_yes (l := l) (m := m) (by omega) (fun k hk => HA.out k (by omega)))
        go_wp2_with fail
        go_ret
        exact ⟨by rw [hE.out]; rfl, hb⟩
  · have hne : ((n : Int) != (n2 : Int)) = true := by simp; omega
    have hE := Lib.hid (eqMs_len (l := l) (m := m) (by omega))
    clear hn
    go_enter Tryd.func58, Tryd.ntmps58
    go_wp2_with fail
    go_ret
    exact ⟨by rw [hE.out]; rfl, Below.refl _ _⟩
end Go.Proofs.YtefcjccapekjdaaDoor.Sq
