/-
  THE ORDER OF EVENTS: cmp.Compare, cmp.Or, event.order: walked; what holds when all but a map is kept.
-/
import Derived.Test.YtoklcbkphipmkaaDoorOcM
import Derived.Test.YtoklcbkphipmkaaDoorImp
import Derived.Sort.Grow
namespace Go.Proofs.YtoklcbkphipmkaaDoor.Oc
open Go.ChangeShapes Go.WideShapes Go.ChangeAt Go.RowKit
open Go.Sort (grow alloc_eq_grow grow_grow)
open Go.Proofs.YtoklcbkphipmkaaDoor
open Go.Proofs.YtoklcbkphipmkaaDoor.Wd
open Go.Proofs.YtoklcbkphipmkaaDoor.Sr
open Go.Proofs.YtoklcbkphipmkaaDoor.Sl
open Go.Proofs.YtoklcbkphipmkaaDoor.Mi (Imap)
set_option linter.unusedVariables false
set_option linter.unusedSimpArgs false
/-- an event's cells -/
abbrev evC (rs : List Ru) (e : Pe) : Array Value := #[.int .i64 (rT rs e), .int .u8 (ru_ rs e.1).ck, .int .i64 (ru_ rs e.1).sv, .int .i64 0, .string (ru_ rs e.1).lt, .int .i64 (e.1 : Nat), .int .i64 e.2]
abbrev evZ : Array Value := #[.int .i64 0, .int .u8 0, .int .i64 0, .int .i64 0, .string ⟨#[]⟩, .int .i64 0, .int .i64 0]
def evO (rs : List Ru) : Option Pe → Array Value
  | none => evZ
  | some e => evC rs e
theorem cmp64_any (a b : Int) (w : World) : Calls Tryd.prog 46 #[.int .i64 a, .int .i64 b] w fun e w' => e = .returned (.int .i64 (cmp3 a b)) ∧ w' = w := by
  have h1 : Calls Tryd.prog 71 #[.int .i64 a] w fun e w' => e = .returned (.bool false) ∧ w' = w := by
    go_enter Tryd.func71, Tryd.ntmps71
    go_wp2_with fail
    go_ret
    exact ⟨by simp, rfl⟩
  have h2 : Calls Tryd.prog 71 #[.int .i64 b] w fun e w' => e = .returned (.bool false) ∧ w' = w := by
    go_enter Tryd.func71, Tryd.ntmps71
    go_wp2_with fail
    go_ret
    exact ⟨by simp, rfl⟩
  unfold cmp3
  by_cases q : a < b
  · rw [if_pos q]
    go_enter Tryd.func46, Tryd.ntmps46
    go_wp2_with fail
    refine h1.mono ?_; rintro e w' ⟨rfl, rfl⟩
    go_wp2_with fail
    refine h2.mono ?_; rintro e w' ⟨rfl, rfl⟩
    go_wp2_with fail
    go_ret
    exact ⟨rfl, rfl⟩
  · rw [if_neg q]
    by_cases q2 : b < a
    · rw [if_pos q2]
      go_enter Tryd.func46, Tryd.ntmps46
      go_wp2_with fail
      refine h1.mono ?_; rintro e w' ⟨rfl, rfl⟩
      go_wp2_with fail
      refine h2.mono ?_; rintro e w' ⟨rfl, rfl⟩
      go_wp2_with fail
      go_ret
      exact ⟨rfl, rfl⟩
    · rw [if_neg q2]
      go_enter Tryd.func46, Tryd.ntmps46
      go_wp2_with fail
      refine h1.mono ?_; rintro e w' ⟨rfl, rfl⟩
      go_wp2_with fail
      refine h2.mono ?_; rintro e w' ⟨rfl, rfl⟩
      go_wp2_with fail
      go_ret
      exact ⟨rfl, rfl⟩
theorem cmpi_any (a b : Int) (w : World) : Calls Tryd.prog 47 #[.int .i64 a, .int .i64 b] w fun e w' => e = .returned (.int .i64 (cmp3 a b)) ∧ w' = w := by
  have h1 : Calls Tryd.prog 72 #[.int .i64 a] w fun e w' => e = .returned (.bool false) ∧ w' = w := by
    go_enter Tryd.func72, Tryd.ntmps72
    go_wp2_with fail
    go_ret
    exact ⟨by simp, rfl⟩
  have h2 : Calls Tryd.prog 72 #[.int .i64 b] w fun e w' => e = .returned (.bool false) ∧ w' = w := by
    go_enter Tryd.func72, Tryd.ntmps72
    go_wp2_with fail
    go_ret
    exact ⟨by simp, rfl⟩
  unfold cmp3
  by_cases q : a < b
  · rw [if_pos q]
    go_enter Tryd.func47, Tryd.ntmps47
    go_wp2_with fail
    refine h1.mono ?_; rintro e w' ⟨rfl, rfl⟩
    go_wp2_with fail
    refine h2.mono ?_; rintro e w' ⟨rfl, rfl⟩
    go_wp2_with fail
    go_ret
    exact ⟨rfl, rfl⟩
  · rw [if_neg q]
    by_cases q2 : b < a
    · rw [if_pos q2]
      go_enter Tryd.func47, Tryd.ntmps47
      go_wp2_with fail
      refine h1.mono ?_; rintro e w' ⟨rfl, rfl⟩
      go_wp2_with fail
      refine h2.mono ?_; rintro e w' ⟨rfl, rfl⟩
      go_wp2_with fail
      go_ret
      exact ⟨rfl, rfl⟩
    · rw [if_neg q2]
      go_enter Tryd.func47, Tryd.ntmps47
      go_wp2_with fail
      refine h1.mono ?_; rintro e w' ⟨rfl, rfl⟩
      go_wp2_with fail
      refine h2.mono ?_; rintro e w' ⟨rfl, rfl⟩
      go_wp2_with fail
      go_ret
      exact ⟨rfl, rfl⟩
theorem or_any (g : Nat) (t : TypeId) (a b : Int) (w : World) (x : Blk w g t #[.int .i64 a, .int .i64 b]) : Calls Tryd.prog 45 #[.slice (some ⟨g, 0, none⟩) 2 2] w fun e w' => e = .returned (.int .i64 (if a = 0 then b else a)) ∧ w' = w := by
  have c0 : w.cell? ⟨g, 0, none⟩ = some (.int .i64 a) := x.cell 0
  have c1 : w.cell? ⟨g, 1, none⟩ = some (.int .i64 b) := x.cell 1
  go_enter Tryd.func45, Tryd.ntmps45
  go_wp2_with fail
  go_loopw [5, 8] (fun _ i wr => ((i = .int .i64 0) ∨ (i = .int .i64 1 ∧ Hid (a = 0)) ∨ (i = .int .i64 2 ∧ Hid (a = 0) ∧ Hid (b = 0))) ∧ wr = w) (fun _ i _ => 2 - (intOf i).toNat)
  case atStart => exact ⟨.inl rfl, rfl⟩
  case round =>
    obtain ⟨(rfl | ⟨rfl, ha⟩ | ⟨rfl, ha, hb⟩), rfl⟩ := hrel
    · by_cases q : a = 0
      · go_wp2_with fail
        go_roundw
        case rel => exact ⟨.inr (.inl ⟨rfl, q⟩), by first | rfl | trivial⟩
        case measure => simp [intOf]
      · go_wp2_with fail
        go_ret
        exact ⟨rfl, rfl⟩
    · by_cases q : b = 0
      · go_wp2_with fail
        go_roundw
        case rel => exact ⟨.inr (.inr ⟨rfl, ha, q⟩), by first | rfl | trivial⟩
        case measure => simp [intOf]
      · go_wp2_with fail
        go_ret
        exact ⟨by first | rfl | (rw [if_pos ha.out]; rfl), rfl⟩
    · go_wp2_with fail
      go_ret
      exact ⟨by rw [hb.out]; first | rfl | (rw [if_pos ha.out]; rfl), rfl⟩
theorem fld {rs : List Ru} {e : Pe} {g : Nat} {w : World} (x : Blk w g 80 (evC rs e)) : w.cell? ⟨g, 0, none⟩ = some (.int .i64 (rT rs e)) ∧ w.cell? ⟨g, 5, none⟩ = some (.int .i64 (e.1 : Nat)) := ⟨x.cell 0, x.cell 5⟩
theorem grow3 (w : World) (a b c : Obj) : (((w.alloc a).alloc b).drew.alloc c) = grow (w.drewN 1) #[a, b, c] := by
  rw [alloc_eq_grow, alloc_eq_grow, alloc_eq_grow, grow_grow]
  show grow (grow (w.drewN 1) _) _ = _
  rw [grow_grow]; rfl
set_option maxRecDepth 100000 in
set_option maxHeartbeats 3200000 in
theorem order_g (rs : List Ru) (e o : Pe) (w : World) : Calls Tryd.prog 28 #[.agg (evC rs e), .agg (evC rs o)] w fun x w' => x = .returned (.int .i64 (ordV rs e o)) ∧ ∃ q os', w' = grow (w.drewN q) os' := by
  have xa := (Blk.new w 80 (evC rs e)).alloc (.cells (evC rs o) 80)
  have xb := blk_at (w.alloc (.cells (evC rs e) 80)) 80 (evC rs o) (sz1 w _ rfl)
  obtain ⟨a0, a1⟩ := fld xa
  obtain ⟨b0, b1⟩ := fld xb
  have h1 := fun W => cmp64_any (rT rs e) (rT rs o) W
  have h2 := fun W => cmpi_any (e.1 : Nat) (o.1 : Nat) W
  have h3 := fun W => or_any _ _ (cmp3 (rT rs e) (rT rs o)) (cmp3 (e.1 : Nat) (o.1 : Nat)) _ (Blk.new W 3 #[.int .i64 (cmp3 (rT rs e) (rT rs o)), .int .i64 (cmp3 (e.1 : Nat) (o.1 : Nat))])
  have hg := grow3 w (.cells (evC rs e) 80) (.cells (evC rs o) 80) (.cells #[.int .i64 (cmp3 (rT rs e) (rT rs o)), .int .i64 (cmp3 (e.1 : Nat) (o.1 : Nat))] 3)
  unfold ordV
  generalize cmp3 (rT rs e) (rT rs o) = p at *
  generalize cmp3 (e.1 : Nat) (o.1 : Nat) = q at *
  generalize (if p = 0 then q else p) = r at *
  clear xa xb
  go_enter Tryd.func28, Tryd.ntmps28
  go_upto_region 1 with fail
  generalize hV : (w.alloc (.cells (evC rs e) 80)).alloc (.cells (evC rs o) 80) = V at *
  have HG := Lib.hid hg; clear hg hV
  go_still_tail 12, (by kernel_rfl)
  repeat (first | still_call (h1 _) | still_call (h2 _) | still_step)
  refine wpStill_nil ?_
  change wpList _ _ _ _ _ V.drew
  go_wp2_with fail
  refine (h3 V.drew).mono ?_; rintro e w2 ⟨rfl, rfl⟩
  go_wp2_with fail
  go_ret
  exact ⟨rfl, 1, _, HG.out⟩
theorem below_grow (w : World) (q : Nat) (os : Array Obj) : Below w.heap.size w (grow (w.drewN q) os) := by
  refine ⟨rfl, rfl, rfl, by simp [grow, World.drewN], fun k hk => ?_⟩
  show (w.heap ++ os)[k]? = _
  rw [Array.getElem?_append_left hk]
theorem order_b (rs : List Ru) (e o : Pe) (w : World) : Calls Tryd.prog 28 #[.agg (evC rs e), .agg (evC rs o)] w fun x w' => x = .returned (.int .i64 (ordV rs e o)) ∧ Below w.heap.size w w' :=
  (order_g rs e o w).mono fun _ _ h => ⟨h.1, by obtain ⟨_, q, os, rfl⟩ := h; exact below_grow w q os⟩
def aggT : TypeDesc → Bool
  | .struct _ => true
  | .array _ _ => true
  | _ => false
theorem run_row {P : Program} (w : World) (g : Nat) (t ty : TypeId) (cs : Array Value) (d : TypeDesc) (hg : w.heap[g]? = some (.cells cs t (0, 0)))
    (hu : P.underlying ty = some d) (hd : aggT d = true) (hi : (P.info? ty).map (·.size) = some cs.size) :
    (loadVar ty ⟨g, 0, none⟩).run P w = .ok (.agg cs) w := run_loadVar_row w g t ty cs (0, 0) d hg hu (by cases d <;> first | rfl | (unfold aggT at hd; exact hd)) hi
/-- what a function answers whose first result is a struct in a block -/
theorem res_ct {fn : Func} {p q : Tmp} {T : TypeId} (h : fn.results = #[.cell p T, .tmp q]) (tmps : Array Value) (w : World) (g : Nat) (t : TypeId) (cs : Array Value) (v : Value) (d : TypeDesc)
    (hp : tmps.getD p undef = .pointer (some ⟨g, 0, none⟩)) (hq : tmps.getD q undef = v) (hg : Blk w g t cs)
    (hu : Tryd.prog.underlying T = some d) (hd : aggT d = true) (hi : (Tryd.prog.info? T).map (·.size) = some cs.size) :
    (results fn tmps).run Tryd.prog w = .ok (.tuple #[.agg cs, v]) w := by
  have hp' : tmps[p]?.getD undef = .pointer (some ⟨g, 0, none⟩) := by simpa using hp
  have hq' : tmps[q]?.getD undef = v := by simpa using hq
  simp [results, h, hp', hq', asAddr, run_row w g t T cs d hg hu hd hi]
/-- all but one block is kept -/
structure But (mb B : Nat) (w w' : World) : Prop where
  os : w'.os = w.os
  tape : w'.tape = w.tape
  output : w'.output = w.output
  size : w.heap.size ≤ w'.heap.size
  block : ∀ k, k < B → k ≠ mb → w'.heap[k]? = w.heap[k]?
section
variable {mb B B' : Nat} {w w' w'' : World}
theorem But.refl (mb B : Nat) (w : World) : But mb B w w := ⟨rfl, rfl, rfl, Nat.le_refl _, fun _ _ _ => rfl⟩
theorem But.trans (h : But mb B w w') (k : But mb B w' w'') : But mb B w w'' :=
  ⟨k.os.trans h.os, k.tape.trans h.tape, k.output.trans h.output, Nat.le_trans h.size k.size, fun i hi hm => (k.block i hi hm).trans (h.block i hi hm)⟩
theorem But.mono (h : But mb B w w') (hB : B' ≤ B) : But mb B' w w' := ⟨h.os, h.tape, h.output, h.size, fun k hk hm => h.block k (Nat.lt_of_lt_of_le hk hB) hm⟩
theorem But.of (h : Below B w w') : But mb B w w' := ⟨h.os, h.tape, h.output, h.size, fun k hk _ => h.block k hk⟩
theorem But.below (h : But mb B w w') (hm : B' ≤ mb) (hB : B' ≤ B) : Below B' w w' := ⟨h.os, h.tape, h.output, h.size, fun k hk => h.block k (by omega) (by omega)⟩
/-- behind a walk with a frame of its own -/
theorem But.and (h : But mb B w w') (k : Below w'.heap.size w' w'') (hB : B ≤ w.heap.size) : But mb B w w'' := h.trans (But.of (k.mono (Nat.le_trans hB h.size)))
theorem But.andB (h : But mb B w w') (k : But mb w'.heap.size w' w'') (hB : B ≤ w.heap.size) : But mb B w w'' := h.trans (k.mono (Nat.le_trans hB h.size))
theorem But.alloc (h : But mb B w w') (hB : B ≤ w.heap.size) (o : Obj) : But mb B w (w'.alloc o) := h.trans (But.of ((Below.refl B w').alloc (Nat.le_trans hB h.size) o))
theorem But.drew (h : But mb B w w') : But mb B w w'.drew := ⟨h.os, h.tape, h.output, h.size, h.block⟩
theorem But.grown (h : But mb B w w') {row : Option Nat} (hg : w'.grownBy w'' row) (hB : B ≤ w.heap.size) (hr : ∀ k, row = some k → B ≤ k ∨ k = mb) : But mb B w w'' :=
  h.trans ⟨hg.os, hg.tape, hg.output, hg.size, fun k hk hm => hg.block k (by have := h.size; omega) (fun e => by rcases hr k e.symm with q | q <;> omega)⟩
/-- the block is a map -/
def IsMap (w : World) (mb : Nat) : Prop := ∃ es c, w.heap[mb]? = some (.map es c)
theorem IsMap.cell (h : IsMap w mb) {p : Addr} {v : Value} (hc : w.cell? p = some v) : p.block ≠ mb := by
  rintro rfl
  obtain ⟨es, c, h⟩ := h
  unfold World.cell? at hc
  rw [h] at hc
  cases hc
theorem But.cell (h : But mb B w w') {p : Addr} (hp : p.block < B) (hm : p.block ≠ mb) : w'.cell? p = w.cell? p := World.cell?_of_block (w := w) (h.block p.block hp hm)
theorem Blk.but {g : Nat} {t : TypeId} {cs : Array Value} (x : Blk w g t cs) (hm : IsMap w mb) (h : But mb B w w') (hg : g < B) : Blk w' g t cs :=
  (h.block g hg (by rintro rfl; obtain ⟨es, c, hm⟩ := hm; unfold Blk at x; rw [hm] at x; cases x)).trans x
theorem reads_but {C size n : Nat} {A : Option Addr} {xs : List Value} (x : Reads w C size A n xs) (hm : IsMap w mb) (h : But mb B w w') (hC : C ≤ B) : Reads w' C size A n xs :=
  ⟨x.1, fun hn => by
    obtain ⟨ad, e, hb, hc⟩ := x.2 hn
    exact ⟨ad, e, hb, fun j u hu => (h.cell (by rw [Wd.block_of_add]; omega) (hm.cell (hc j u hu))).trans (hc j u hu)⟩⟩
theorem sls_but {α : Type} {f : α → Array Value} {sz C n : Nat} {A : Option Addr} {L : List α} (x : Sls f sz w C A n L) (hm : IsMap w mb) (h : But mb B w w') (hC : C ≤ B) : Sls f sz w' C A n L :=
  ⟨x.len, reads_but x.r hm h hC⟩
end
end Go.Proofs.YtoklcbkphipmkaaDoor.Oc
