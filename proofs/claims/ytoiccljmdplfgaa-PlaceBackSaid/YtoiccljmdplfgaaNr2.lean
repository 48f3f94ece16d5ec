/-
  near.Order, walked over a contract of the sort.
-/
import Derived.Test.YtoiccljmdplfgaaNr1
import Derived.Test.YtoiccljmdplfgaaPl3
import Derived.Test.YtoiccljmdplfgaaLdA
import Derived.Deep.OwnRows
import Derived.Deep.RegionHeld3
import Derived.Deep.DrawnRows
namespace Go.Proofs.Ytoiccljmdplfgaa.Nr
open Go.ChangeShapes Go.WideShapes Go.ChangeAt Go.RowKit Go.Shelf
open Go.Proofs.Ytoiccljmdplfgaa
open Go.Proofs.Ytoiccljmdplfgaa.Wd
open Go.Proofs.Ytoiccljmdplfgaa.Pl
open Go.Proofs.Ytoiccljmdplfgaa.Nv
open Go.Proofs.Ytoiccljmdplfgaa.Ld
set_option linter.unusedVariables false
attribute [local go_sem ↓] Go.wp_at_zero Go.wp_at_succ
attribute [local go_sem ↓] ldP_sem
attribute [local go_sem] ldSem_run
/-- w' is w but for block g -/
structure Only (g : Nat) (w w' : World) : Prop where
  os : w'.os = w.os
  tape : w'.tape = w.tape
  output : w'.output = w.output
  size : w'.heap.size = w.heap.size
  block : ∀ k, k ≠ g → w'.heap[k]? = w.heap[k]?
theorem Only.refl (g : Nat) (w : World) : Only g w w := ⟨rfl, rfl, rfl, rfl, fun _ _ => rfl⟩
theorem Only.trans {g : Nat} {a b c : World} (h : Only g a b) (k : Only g b c) : Only g a c :=
  ⟨k.os.trans h.os, k.tape.trans h.tape, k.output.trans h.output, k.size.trans h.size, fun i hi => (k.block i hi).trans (h.block i hi)⟩
theorem Only.drew {g : Nat} {a b : World} (h : Only g a b) : Only g a b.drew := ⟨h.os, h.tape, h.output, h.size, h.block⟩
theorem Only.below {g : Nat} {w a b : World} (h : Only g a b) (i : BI w a) (hg : w.heap.size ≤ g) : BI w b :=
  i.trans ⟨h.os, h.tape, h.output, Nat.le_of_eq h.size.symm, fun k hk => h.block k (by omega)⟩
theorem Only.blk {g b : Nat} {w w' : World} {t : TypeId} {cs : Array Value} (h : Only g w w') (x : Blk w b t cs) (hne : b ≠ g) : Blk w' b t cs := (h.block b hne).trans x
theorem Only.row {g b n : Nat} {w w' : World} {t : TypeId} {f : Nat → Value} (h : Only g w w') (x : w.rowIs b t n f) (hne : b ≠ g) : w'.rowIs b t n f := x.of_block (h.block b hne)
theorem row_below {b n : Nat} {w w' : World} {t : TypeId} {f : Nat → Value} (x : w.rowIs b t n f) (h : Below w.heap.size w w') : w'.rowIs b t n f := x.of_block (h.block b x.lt)
theorem blk_set {g b k : Nat} {w : World} {t : TypeId} {cs : Array Value} (x : Blk w b t cs) (hne : b ≠ g) (v : Value) : Blk (w.setCell ⟨g, k, none⟩ v) b t cs := (Below.heap_setCell w ⟨g, k, none⟩ v b hne).trans x
def far_ (L : List Pc) (p : P2) (k : Nat) : Int := distV (pc_ L k).p p
abbrev cmpF (gT : Nat) : Value := .func (.func 75) #[] #[.pointer (some ⟨gT, 0, none⟩)]
/-- what the sort is to do: an order of the places of numbers -/
def SortC (far : Nat → Int) (n : Nat) (ord : Nat → Nat) : Prop := ∀ (W : World) (gO gT gF : Nat), W.rowIs gO 3 n (fun j => .int .i64 (j : Int)) → Blk W gT 136 #[.slice (some ⟨gF, 0, none⟩) n n] → W.rowIs gF 2 n (fun j => .int .i64 (far j)) → gO ≠ gT → gO ≠ gF →
  Calls Try.prog 74 #[.slice (some ⟨gO, 0, none⟩) n n, cmpF gT] W fun e w' => e = .returned (.tuple #[]) ∧ Only gO W w' ∧ w'.rowIs gO 3 n (fun j => .int .i64 (ord j : Int))
theorem i64_info : (Try.prog.info? 2).map (fun i => (i.zero, i.size, i.bytes)) = some (some (.int .i64 0), 1, 8) := by kernel_rfl
theorem int_info : (Try.prog.info? 3).map (fun i => (i.zero, i.size, i.bytes)) = some (some (.int .i64 0), 1, 8) := by kernel_rfl
theorem ld_b {w : World} {g : Nat} {x : P2} (h : Blk w g 23 x.A) : ldT 23 (.pointer (some ⟨g, 0, none⟩)) w = some x.A := ldT_of (ld_seg h Try.underlying23 rfl (by kernel_rfl) (by kernel_rfl))
theorem ld_o {w : World} {g : Nat} {a : Pc} (h : Blk w g 67 a.C) : ldT 23 (.pointer (some ⟨g, 1, none⟩)) w = some a.p.A := ldT_of (ld_seg h Try.underlying23 rfl (by kernel_rfl) (by kernel_rfl))
theorem so_mk {w W : World} {gT gF gO gz n : Nat} {a : Pc} {p : P2} {fO : Nat → Value} (hT : Blk W gT 136 #[.slice (some ⟨gF, 0, none⟩) n n]) (hz : Blk W gz 67 a.C) (hy : Blk W w.heap.size 23 p.A) (rO : W.rowIs gO 3 n fO) (iv : BI w W) :
    Blk W gT 136 #[.slice (some ⟨gF, 0, none⟩) n n] ∧ Blk W gz 67 a.C ∧ Blk W w.heap.size 23 p.A ∧ W.rowIs gO 3 n fO ∧ BI w W ∧ W.cell? ⟨gT, 0, none⟩ = some (.slice (some ⟨gF, 0, none⟩) n n) ∧ ldT 23 (.pointer (some ⟨gz, 1, none⟩)) W = some a.p.A ∧ ldT 23 (.pointer (some ⟨w.heap.size, 0, none⟩)) W = some p.A := ⟨hT, hz, hy, rO, iv, hT.cell 0, ld_o hz, ld_b hy⟩
theorem so_on {w W W2 : World} {gT gF gO gz n : Nat} {a : Pc} {p : P2} {fO : Nat → Value} (h : Blk W gT 136 #[.slice (some ⟨gF, 0, none⟩) n n] ∧ Blk W gz 67 a.C ∧ Blk W w.heap.size 23 p.A ∧ W.rowIs gO 3 n fO ∧ BI w W ∧ W.cell? ⟨gT, 0, none⟩ = some (.slice (some ⟨gF, 0, none⟩) n n) ∧ ldT 23 (.pointer (some ⟨gz, 1, none⟩)) W = some a.p.A ∧ ldT 23 (.pointer (some ⟨w.heap.size, 0, none⟩)) W = some p.A) (hb : Below W.heap.size W W2) :
    Blk W2 gT 136 #[.slice (some ⟨gF, 0, none⟩) n n] ∧ Blk W2 gz 67 a.C ∧ Blk W2 w.heap.size 23 p.A ∧ W2.rowIs gO 3 n fO ∧ BI w W2 ∧ W2.cell? ⟨gT, 0, none⟩ = some (.slice (some ⟨gF, 0, none⟩) n n) ∧ ldT 23 (.pointer (some ⟨gz, 1, none⟩)) W2 = some a.p.A ∧ ldT 23 (.pointer (some ⟨w.heap.size, 0, none⟩)) W2 = some p.A := by
  obtain ⟨hT, hz, hy, rO, iv, _⟩ := h
  exact so_mk (hT.below hb hT.lt) (hz.below hb hz.lt) (hy.below hb hy.lt) (row_below rO hb) (iv.call hb)
theorem so_st {w W : World} {gT gF gO gz n : Nat} {a : Pc} {p : P2} {fO : Nat → Value} (h : Blk W gT 136 #[.slice (some ⟨gF, 0, none⟩) n n] ∧ Blk W gz 67 a.C ∧ Blk W w.heap.size 23 p.A ∧ W.rowIs gO 3 n fO ∧ BI w W ∧ W.cell? ⟨gT, 0, none⟩ = some (.slice (some ⟨gF, 0, none⟩) n n) ∧ ldT 23 (.pointer (some ⟨gz, 1, none⟩)) W = some a.p.A ∧ ldT 23 (.pointer (some ⟨w.heap.size, 0, none⟩)) W = some p.A) {k : Nat} {v : Value} (h1 : gT ≠ gF) (h2 : gz ≠ gF) (h3 : w.heap.size ≠ gF) (h4 : gO ≠ gF) (h5 : w.heap.size ≤ gF) :
    Blk (W.setCell ⟨gF, k, none⟩ v) gT 136 #[.slice (some ⟨gF, 0, none⟩) n n] ∧ Blk (W.setCell ⟨gF, k, none⟩ v) gz 67 a.C ∧ Blk (W.setCell ⟨gF, k, none⟩ v) w.heap.size 23 p.A ∧ (W.setCell ⟨gF, k, none⟩ v).rowIs gO 3 n fO ∧ BI w (W.setCell ⟨gF, k, none⟩ v) ∧ (W.setCell ⟨gF, k, none⟩ v).cell? ⟨gT, 0, none⟩ = some (.slice (some ⟨gF, 0, none⟩) n n) ∧ ldT 23 (.pointer (some ⟨gz, 1, none⟩)) (W.setCell ⟨gF, k, none⟩ v) = some a.p.A ∧ ldT 23 (.pointer (some ⟨w.heap.size, 0, none⟩)) (W.setCell ⟨gF, k, none⟩ v) = some p.A := by
  obtain ⟨hT, hz, hy, rO, iv, _⟩ := h
  exact so_mk (blk_set hT h1 v) (blk_set hz h2 v) (blk_set hy h3 v) (rO.setOther (a := ⟨gF, k, none⟩) h4 v) (iv.setCell (p := ⟨gF, k, none⟩) h5 v)
abbrev fK (f : Nat → Int) (k : Nat) : Nat → Value := fun j => .int .i64 (if j < k then f j else 0)
theorem fK_set (f : Nat → Int) (k : Nat) : (fun j => if j = k then Value.int .i64 (f k) else fK f k j) = fK f (k + 1) := by
  funext j
  by_cases h : j = k
  · subst h; rw [if_pos rfl]; show _ = Value.int .i64 (if j < j + 1 then f j else 0); rw [if_pos (by omega)]
  · rw [if_neg h]; show Value.int .i64 (if j < k then f j else 0) = Value.int .i64 (if j < k + 1 then f j else 0)
    by_cases h2 : j < k
    · rw [if_pos h2, if_pos (by omega)]
    · rw [if_neg h2, if_neg (by omega)]
set_option maxRecDepth 100000 in
set_option maxHeartbeats 6400000 in
theorem order_no (A : Option Addr) (n c : Nat) (L : List Pc) (p : P2) (w : World) (hR : Pcs w w.heap.size A n L) (hm : n ≤ maxLen) (hn : ncE L p ≠ 0) :
    Calls Try.prog 43 #[.slice A n c, p.V] w fun e w' => e = .returned (.tuple #[.slice none 0 0, .int .i64 (ncE L p)]) ∧ Below w.heap.size w w' := by
  have i1 := (BI.start w).alloc (.cells p.A 23)
  have y1 := Blk.new w 23 p.A
  have hck := ncheck_any A n c L p _ ((hR.below i1.b).more i1.b.size) hm
  generalize ncE L p = E at *
  have hv : (E != 0) = true := by simp [hn]
  clear hn
  go_enter Try.func43, Try.ntmps43
  go_wp2_with (first | refine wpList_row_g rfl 23 _ rfl _ rfl _ _ _ _ y1 Try.underlying23 rfl (by kernel_rfl) ?_)
  refine hck.mono ?_; rintro e w2 ⟨rfl, hb2⟩
  have i2 := i1.call hb2
  go_wp2_with fail
  go_ret2
  exact ⟨rfl, i2⟩
set_option maxRecDepth 100000 in
set_option maxHeartbeats 6400000 in
theorem order_ok (A : Option Addr) (n c : Nat) (L : List Pc) (p : P2) (w : World) (hR : Pcs w w.heap.size A n L) (hm : n ≤ maxLen) (hn : ncE L p = 0) (ord : Nat → Nat) (hS : SortC (far_ L p) n ord) :
    Calls Try.prog 43 #[.slice A n c, p.V] w fun e w' => ∃ g, e = .returned (.tuple #[.slice (some ⟨g, 0, none⟩) n n, .int .i64 0]) ∧ Below w.heap.size w w' ∧ w'.rowIs g 3 n (fun j => .int .i64 (ord j : Int)) := by
  have hll := hR.len
  have hn4 : n ≤ 4096 := by
    unfold ncE pcE at hn
    rw [hll] at hn
    by_cases h : 4096 < n
    · rw [if_pos h] at hn; simp at hn
    · omega
  have i1 := (BI.start w).alloc (.cells p.A 23)
  have y1 := Blk.new w 23 p.A
  have hck := ncheck_any A n c L p _ ((hR.below i1.b).more i1.b.size) hm
  rw [hn] at hck
  clear hn hm
  have mk1 := fun w => run_make_row' (P := Try.prog) 136 2 (.int .i64 0) 8 (by kernel_rfl) i64_info rfl .i64 .i64 n (by omega) (by omega) w
  have mk2 := fun w => run_make_row' (P := Try.prog) 69 3 (.int .i64 0) 8 (by kernel_rfl) int_info rfl .i64 .i64 n (by omega) (by omega) w
  go_enter Try.func43, Try.ntmps43
  go_wp2_with (first | refine wpList_row_g rfl 23 _ rfl _ rfl _ _ _ _ y1 Try.underlying23 rfl (by kernel_rfl) ?_)
  refine hck.mono ?_; rintro e w2 ⟨rfl, hb2⟩
  have i2 := i1.call hb2
  have y2 := y1.below hb2 y1.lt
  clear i1 y1 hb2 hck
  go_wp2_with fail
  obtain ⟨W3, hW3⟩ : ∃ W3 : World, W3 = (((w2.alloc (.cells (madeCells #[.int .i64 0] n) 2)).alloc (.cells #[.slice (some ⟨w2.heap.size, 0, none⟩) n n] 136)).alloc (.cells (madeCells #[.int .i64 0] n) 3)) := ⟨_, rfl⟩
  obtain ⟨gF, hF⟩ : ∃ g, g = w2.heap.size := ⟨_, rfl⟩
  obtain ⟨gT, hT⟩ : ∃ g, g = w2.heap.size + 1 := ⟨_, rfl⟩
  obtain ⟨gO, hO⟩ : ∃ g, g = w2.heap.size + 1 + 1 := ⟨_, rfl⟩
  have i3 : BI w W3 := by rw [hW3]; exact ((i2.alloc _).alloc _).alloc _
  have y3 : Blk W3 w.heap.size 23 p.A := by rw [hW3]; exact ((y2.alloc _).alloc _).alloc _
  have rF : W3.rowIs gF 2 n (fK (far_ L p) 0) := by
    rw [hW3, hF]; exact (((World.rowIs_made w2 (.int .i64 0) n 2).alloc _).alloc _).congr (fun j _ => by show _ = Value.int .i64 (if j < 0 then far_ L p j else 0); rw [if_neg (Nat.not_lt_zero _)])
  have xT : Blk W3 gT 136 #[.slice (some ⟨gF, 0, none⟩) n n] := by rw [hW3, hT, hF]; exact (blk_at _ _ _ (sz1 _ _ rfl)).alloc _
  have rO : W3.rowIs gO 3 n (fK (fun j => (j : Int)) 0) := by
    have := World.rowIs_made ((w2.alloc (.cells (madeCells #[.int .i64 0] n) 2)).alloc (.cells #[.slice (some ⟨w2.heap.size, 0, none⟩) n n] 136)) (.int .i64 0) n 3
    rw [sz1 _ _ (sz1 _ _ rfl)] at this
    rw [hW3, hO]; exact this.congr (fun j _ => by show _ = Value.int .i64 (if j < 0 then (j : Int) else 0); rw [if_neg (Nat.not_lt_zero _)])
  have hw2 := i2.b.size
  have n1 : gT ≠ gF := by omega
  have n3 : w.heap.size ≠ gF := by have := y2.lt; omega
  have n4 : gO ≠ gF := by omega
  have n5 : w.heap.size ≤ gF := by omega
  have n6 : gT ≠ gO := by omega
  have n7 : w.heap.size ≠ gO := by have := y2.lt; omega
  have n8 : w.heap.size ≤ gO := by omega
  rw [← hW3, ← hO, ← hT, ← hF]
  clear hW3 hO hT hF y2 i2 hw2 mk1 mk2
  go_loopw [25] (fun i wr => ∃ k : Nat, i = .int .i64 k ∧ k ≤ n ∧ BI w wr ∧ Blk wr w.heap.size 23 p.A ∧ wr.rowIs gF 2 n (fK (far_ L p) k) ∧ Blk wr gT 136 #[.slice (some ⟨gF, 0, none⟩) n n] ∧ wr.rowIs gO 3 n (fK (fun j => (j : Int)) k)) (fun i _ => n - (intOf i).toNat)
  case atStart => exact ⟨0, rfl, Nat.zero_le _, i3, y3, rF, xT, rO⟩
  case round =>
    clear i3 y3 rF xT rO
    obtain ⟨k, rfl, hk, hb, hy, rF, xT, rO⟩ := hrel
    by_cases hlt : k < n
    · have hlt' : (k : Int) < (n : Int) := by omega
      obtain ⟨ad, rfl, hrow⟩ := (hR.below hb.b).row hlt
      have HD := Lib.hid (show far_ L p k = distV (pc_ L k).p p from rfl)
      have HF := Lib.hid (fK_set (far_ L p) k); have HO := Lib.hid (fK_set (fun j => (j : Int)) k)
      obtain ⟨a, ha⟩ : ∃ a, pc_ L k = a := ⟨_, rfl⟩
      rw [ha] at hrow HD
      have hdi := fun W => dist_any a.p p W
      generalize distV a.p p = D at *
      clear ha
      have i4 := hb.alloc (.cells a.C 67)
      have z4 := Blk.new wr 67 a.C
      have y4 := hy.alloc (.cells a.C 67)
      have rF4 := rF.alloc (.cells a.C 67)
      have xT4 := xT.alloc (.cells a.C 67)
      have rO4 := rO.alloc (.cells a.C 67)
      have n2 : wr.heap.size ≠ gF := Nat.ne_of_gt rF.lt
      have n9 : wr.heap.size ≠ gO := Nat.ne_of_gt rO.lt
      clear hb hy rF xT rO
      go_wp2_with (first | refine wpList_at_g rfl 67 _ rfl w.heap.size _ a.C rfl _ hrow Try.underlying67 rfl (by kernel_rfl) ?_ | refine wpList_store_new rfl 67 _ _ rfl rfl wr.heap.size a.C rfl rfl _ ZP wr rfl rfl rfl (by kernel_rfl) (by kernel_rfl) ?_)
      obtain ⟨W4, hW4⟩ : ∃ W4 : World, W4 = wr.alloc (.cells a.C 67) := ⟨_, rfl⟩
      obtain ⟨gz, hgz⟩ : ∃ g, g = wr.heap.size := ⟨_, rfl⟩
      rw [← hW4] at i4 z4 y4 rF4 xT4 rO4
      rw [← hgz] at z4 n2 n9
      rw [← hW4, ← hgz]
      clear hW4 hgz hrow
      generalize hfo : fK (fun j => (j : Int)) k = fO at *
      generalize hff : fK (far_ L p) k = fF at *
      have ZZ := Lib.hid (so_mk (W := W4.drew) (show Blk W4.drew _ _ _ from xT4) z4 y4 rO4 i4.drew)
      have rF0 : W4.drew.rowIs gF 2 n fF := rF4
      clear i4 z4 y4 rF4 xT4 rO4
      refine wp_region_held_drew (S := fun w' => Blk w' gT 136 #[.slice (some ⟨gF, 0, none⟩) n n] ∧ Blk w' gz 67 a.C ∧ Blk w' w.heap.size 23 p.A ∧ w'.rowIs gO 3 n fO ∧ BI w w' ∧ w'.cell? ⟨gT, 0, none⟩ = some (.slice (some ⟨gF, 0, none⟩) n n) ∧ ldT 23 (.pointer (some ⟨gz, 1, none⟩)) w' = some a.p.A ∧ ldT 23 (.pointer (some ⟨w.heap.size, 0, none⟩)) w' = some p.A) (by kernel_rfl) (ZZ.out) (fun hHeld => ?_)
      refine wpAnyH_take (i := 0) (oi := { dst := some 30, op := Op.load 136 (Operand.tmp 7), type := 136, pos := "near.go:30", after := #[], guard := none }) (v := ?_) rfl (by kernel_rfl) (by kernel_rfl) (by kernel_rfl) (fun _ _ _ h => h) (Or.inl ⟨by rfl, ?_⟩) hHeld ?_
      rotate_left
      · intro w hSw
        try dsimp only at hSw
        go_simp
        try with_reducible rfl
      try simp only [Act.put, List.setIfInBounds_toArray, List.set_cons_zero, List.set_cons_succ]
      refine wpAnyH_take (i := 1) (oi := { dst := some 31, op := Op.move (Operand.tmp 9), type := 3, pos := "near.go:30", after := #[], guard := none }) (v := ?_) rfl (by kernel_rfl) (by kernel_rfl) (by kernel_rfl) (fun _ _ _ h => h) (Or.inl ⟨by rfl, ?_⟩) hHeld ?_
      rotate_left
      · intro w hSw
        try dsimp only at hSw
        go_simp
        try with_reducible rfl
      try simp only [Act.put, List.setIfInBounds_toArray, List.set_cons_zero, List.set_cons_succ]
      refine wpAnyH_take (i := 2) (oi := { dst := some 32, op := Op.fieldAddr 67 (Operand.tmp 10) 1, type := 0, pos := "near.go:30", after := #[], guard := none }) (v := ?_) rfl (by kernel_rfl) (by kernel_rfl) (by kernel_rfl) (fun _ _ _ h => h) (Or.inl ⟨by rfl, ?_⟩) hHeld ?_
      rotate_left
      · intro w hSw
        try dsimp only at hSw
        go_simp
        try with_reducible rfl
      try simp only [Act.put, List.setIfInBounds_toArray, List.set_cons_zero, List.set_cons_succ]
      refine wpAnyH_take (i := 3) (oi := { dst := some 33, op := Op.load 23 (Operand.tmp 32), type := 23, pos := "near.go:30", after := #[{ on := 2, ground := Ground.data }], guard := none }) (v := ?_) rfl (by kernel_rfl) (by kernel_rfl) (by kernel_rfl) (fun _ _ _ h => h) (Or.inl ⟨by rfl, ?_⟩) hHeld ?_
      rotate_left
      · intro w hSw
        try dsimp only at hSw
        go_simp
        try with_reducible rfl
      try simp only [Act.put, List.setIfInBounds_toArray, List.set_cons_zero, List.set_cons_succ]
      refine wpAnyH_take (i := 4) (oi := { dst := some 34, op := Op.load 23 (Operand.tmp 3), type := 23, pos := "near.go:30", after := #[], guard := none }) (v := ?_) rfl (by kernel_rfl) (by kernel_rfl) (by kernel_rfl) (fun _ _ _ h => h) (Or.inl ⟨by rfl, ?_⟩) hHeld ?_
      rotate_left
      · intro w hSw
        try dsimp only at hSw
        go_simp
        try with_reducible rfl
      try simp only [Act.put, List.setIfInBounds_toArray, List.set_cons_zero, List.set_cons_succ]
      refine wpAnyH_ready (rs := [5]) (by kernel_rfl) (by simp) ?_
      refine AllReadyH.cons (o := { dst := some 35, op := Op.call { callee := Callee.value (Operand.func 17), args := #[Operand.tmp 33, Operand.tmp 34], argTypes := #[23, 23] }, type := 2, pos := "near.go:30", after := #[{ on := 3, ground := Ground.data }, { on := 4, ground := Ground.data }], guard := none }) rfl (fun K hK => ?_) (AllReadyH.nil)
      go_simp
      refine (hdi _).mono ?_; rintro e w_1 ⟨rfl, hb_1⟩
      have rF_1 := row_below rF0 hb_1
      try go_wp2_with fail
      refine hK.out _ _ (so_on hHeld hb_1) (fun hHeld2 => ?_)
      clear hK K hHeld; have hHeld := hHeld2; clear hHeld2
      try simp only [Act.put, List.setIfInBounds_toArray, List.set_cons_zero, List.set_cons_succ]
      refine wpAnyH_take (i := 6) (oi := { dst := some 36, op := Op.indexAddr 136 (Operand.tmp 30) (Operand.tmp 31), type := 0, pos := "near.go:30", after := #[{ on := 0, ground := Ground.data }, { on := 1, ground := Ground.data }, { on := 0, ground := Ground.phase }, { on := 1, ground := Ground.phase }, { on := 2, ground := Ground.phase }, { on := 3, ground := Ground.phase }, { on := 4, ground := Ground.phase }, { on := 5, ground := Ground.phase }], guard := none }) (v := ?_) rfl (by kernel_rfl) (by kernel_rfl) (by kernel_rfl) (fun _ _ _ h => h) (Or.inl ⟨by rfl, ?_⟩) hHeld ?_
      rotate_left
      · intro w hSw
        try dsimp only at hSw
        go_simp
        try with_reducible rfl
      try simp only [Act.put, List.setIfInBounds_toArray, List.set_cons_zero, List.set_cons_succ]
      refine wpAnyH_ready (rs := [7]) (by kernel_rfl) (by simp) ?_
      refine AllReadyH.cons (o := { dst := none, op := Op.store 2 (Operand.tmp 36) (Operand.tmp 35), type := 0, pos := "near.go:30", after := #[{ on := 6, ground := Ground.data }, { on := 5, ground := Ground.data }, { on := 5, ground := Ground.chain }, { on := 0, ground := Ground.phase }, { on := 1, ground := Ground.phase }, { on := 2, ground := Ground.phase }, { on := 3, ground := Ground.phase }, { on := 4, ground := Ground.phase }, { on := 5, ground := Ground.phase }], guard := none }) rfl (fun K hK => ?_) (AllReadyH.nil)
      have cF := rF_1.cell hlt; have uF := rF_1.frozen k
      go_simp
      have rF9 := rF_1.set k (.int .i64 D)
      clear rF_1 cF uF
      refine hK.out _ _ (so_st (k := k) (v := .int .i64 D) hHeld n1 n2 n3 n4 n5) (fun hHeld2 => ?_)
      clear hK K hHeld; have hHeld := hHeld2; clear hHeld2
      try simp only [Act.put, List.setIfInBounds_toArray, List.set_cons_zero, List.set_cons_succ]
      refine wpAnyH_done (by kernel_rfl) ?_ _
      obtain ⟨jT, -, jy, rO6, j6, -⟩ := hHeld
      clear ZZ
      have HO6 := Lib.hid rO6
      have cO := rO6.cell hlt; have uO := rO6.frozen k
      obtain ⟨W6, hW6⟩ : ∃ W6 : World, W6 = w_1.setCell ⟨gF, k, none⟩ (.int .i64 D) := ⟨_, rfl⟩
      rw [← hW6] at jT jy rO6 j6 rF9 cO uO HO6
      rw [← hW6]
      clear hW6
      have rF7 := rF9.setOther (a := ⟨gO, k, none⟩) n4.symm (.int .i64 (k : Int))
      rw [← HD.out, HF.out] at rF7
      have rO7 := rO6.set k (.int .i64 (k : Int))
      rw [HO.out] at rO7
      have jT7 := blk_set (g := gO) (k := k) jT n6 (.int .i64 (k : Int))
      have jy7 := blk_set (g := gO) (k := k) jy n7 (.int .i64 (k : Int))
      have j7 := j6.b.setCell (p := ⟨gO, k, none⟩) n8 (.int .i64 (k : Int))
      clear rF9 rO6 HO6 jT jy j6
      go_wp2_with fail
      go_roundw
      case rel => exact ⟨k + 1, by go_num, by omega, j7, jy7, rF7, jT7, rO7⟩
      case measure => simp [intOf]; omega
    · obtain rfl : k = n := by omega
      have hlt' : ¬ (k : Int) < (k : Int) := by omega
      have q1 : wr.rowIs gO 3 k (fun j => .int .i64 (j : Int)) := rO.congr (fun j hj => by show Value.int .i64 (if j < k then (j : Int) else 0) = _; rw [if_pos hj])
      have q2 : wr.rowIs gF 2 k (fun j => .int .i64 (far_ L p j)) := rF.congr (fun j hj => by show Value.int .i64 (if j < k then far_ L p j else 0) = _; rw [if_pos hj])
      have hs := hS wr gO gT gF q1 xT q2 n6.symm n4
      clear rO rF q1 q2
      go_wp2_with fail
      refine hs.mono ?_; rintro e w9 ⟨rfl, ho, r9⟩
      have i9 := ho.below hb n8
      clear hs ho
      go_wp2_with fail
      go_ret2
      exact ⟨gO, rfl, i9, r9⟩
end Go.Proofs.Ytoiccljmdplfgaa.Nr
