/-
  little's WRITER, WALKED: whatever is put, or written as it is, a writer's bytes grow by just that.
-/
import Derived.Test.YtcjjgfejamddjaaDoorRows
import Derived.Test.YtcjjgfejamddjaaDoorWords
import Derived.WalkKit
import Derived.Below
import Derived.ProofKit
import Derived.Outline
import Derived.ChangeOld
import Derived.Deep.RegionLaw
import Derived.Lib.AppendStr
import Derived.Lib.BufferRead
import Derived.Lib.SmallJoins
import Derived.Lib.Builder
import Derived.Lib.Hide
import Derived.Laws.Bits64b
import Derived.OwnWalk
namespace Go.Proofs.YtcjjgfejamddjaaDoor.Lit
open Go.ChangeShapes Go.WideShapes Go.ChangeAt Go.RowKit
open Go.Proofs.YtcjjgfejamddjaaDoor
open Go.Proofs.YtcjjgfejamddjaaDoor.Wd
open Go.Lib (byteCells strCells)
set_option linter.unusedVariables false
/-- the byte at a place of a number, the lowest first -/
def byteN (n k : Nat) : UInt8 := UInt8.ofNat (n / 2 ^ (8 * k))
def putN (n k : Nat) : List UInt8 := (List.range k).map (byteN n)
/-- what is put -/
def putL (width : Int) (n : Nat) : List UInt8 := if 1 ≤ width ∧ width ≤ 8 then putN n width.toNat else []
theorem putN_succ (n k : Nat) : putN n (k + 1) = putN n k ++ [byteN n k] := by unfold putN; rw [List.range_succ, List.map_append]; rfl
theorem putN_len (n k : Nat) : (putN n k).length = k := by simp [putN]
theorem putL_len (width : Int) (n : Nat) : (putL width n).length ≤ 8 := by
  unfold putL; split
  · rw [putN_len]; omega
  · simp
theorem byteCells_app (a b : List UInt8) : byteCells (a ++ b) = byteCells a ++ byteCells b := by simp [byteCells]
theorem byteCells_len (a : List UInt8) : (byteCells a).length = a.length := by simp [byteCells]
/-- a writer at g, whose row is its own -/
structure WrO (w : World) (g : Nat) (v : Value) (bs : List UInt8) : Prop where
  blk : Blk w g 93 #[.pointer (some ⟨g, 0, none⟩), v]
  row : w.ownsRow g 5 1 v bs.length (byteCells bs)
/-- a writer at g: new, or with a row of its own -/
def Wr (w : World) (g : Nat) (bs : List UInt8) : Prop :=
  (bs = [] ∧ Blk w g 93 #[.pointer none, .slice none 0 0]) ∨ ∃ v, WrO w g v bs
/-- the same, with the row told -/
def WrV (w : World) (g : Nat) (v : Value) (bs : List UInt8) : Prop :=
  (bs = [] ∧ v = .slice none 0 0 ∧ Blk w g 93 #[.pointer none, .slice none 0 0]) ∨ WrO w g v bs
theorem Wr.row {w : World} {g : Nat} {bs : List UInt8} (h : Wr w g bs) : ∃ v, WrV w g v bs := by
  rcases h with ⟨h1, h2⟩ | ⟨v, h⟩
  · exact ⟨_, Or.inl ⟨h1, rfl, h2⟩⟩
  · exact ⟨v, Or.inr h⟩
/-- but for the writer and its row all that was there is as it was -/
def Keep (w w' : World) (g : Nat) (v : Value) : Prop := ∀ b, b < w.heap.size → b ≠ g → v.ownBlock ≠ some b → w'.heap[b]? = w.heap[b]?
theorem own_lt {w : World} {base : Nat} {e : TypeId} {size n : Nat} {v : Value} {xs : List Value} (h : w.ownsRow base e size v n xs) : ∀ g, v.ownBlock = some g → base ≤ g ∧ g < w.heap.size := by
  intro g hg
  rcases h.2 with ⟨rfl, _⟩ | ⟨g', cap, cur, rfl, h2, h3, _⟩
  · simp [Value.ownBlock] at hg
  · simp [Value.ownBlock] at hg; subst hg; exact ⟨h2, (Array.getElem?_eq_some_iff.1 h3).1⟩
theorem own_bel {w w' : World} {base : Nat} {e : TypeId} {size : Nat} {v : Value} {n : Nat} {xs : List Value} (h : w.ownsRow base e size v n xs) (hb : Below w.heap.size w w') : w'.ownsRow base e size v n xs := by
  refine ⟨h.1, ?_⟩
  rcases h.2 with h' | ⟨g, cap, cur, h1, h2, h3, h4⟩
  · exact .inl h'
  · exact .inr ⟨g, cap, cur, h1, h2, by rw [hb.block g (Array.getElem?_eq_some_iff.1 h3).1]; exact h3, h4⟩
theorem WrO.bel {w w' : World} {g : Nat} {v : Value} {bs : List UInt8} (h : WrO w g v bs) (hb : Below w.heap.size w w') : WrO w' g v bs := ⟨h.blk.below hb h.blk.lt, own_bel h.row hb⟩
theorem Wr.bel {w w' : World} {g : Nat} {bs : List UInt8} (h : Wr w g bs) (hb : Below w.heap.size w w') : Wr w' g bs := by
  rcases h with ⟨h1, h2⟩ | ⟨v, h⟩
  · exact Or.inl ⟨h1, h2.below hb h2.lt⟩
  · exact Or.inr ⟨v, h.bel hb⟩
theorem WrO.ne {w : World} {g : Nat} {v : Value} {bs : List UInt8} (h : WrO w g v bs) : v.ownBlock ≠ some g := own_blk_ne h.row h.blk (by decide)
theorem Wr.lt {w : World} {g : Nat} {bs : List UInt8} (h : Wr w g bs) : g < w.heap.size := by
  rcases h with ⟨h1, h2⟩ | ⟨v, h⟩
  · exact h2.lt
  · exact h.blk.lt
theorem Wr.new (w : World) : Wr (w.alloc (.cells #[.pointer none, .slice none 0 0] 93)) w.heap.size [] := Or.inl ⟨rfl, Blk.new w _ _⟩
/-- the row has grown, and the new one is laid down -/
theorem WrO.put {w w' : World} {g : Nat} {v v' : Value} {bs ys : List UInt8} (h : WrO w g v bs) (ho : w'.ownsRow g 5 1 v' (bs.length + ys.length) (byteCells bs ++ byteCells ys)) (hg : w.grownBy w' v.ownBlock) :
    WrO (w'.setCell ⟨g, 1, none⟩ v') g v' (bs ++ ys) ∧ Below g w (w'.setCell ⟨g, 1, none⟩ v') := by
  have hb := h.blk.grown hg (fun e => h.ne e.symm)
  have hl := h.blk.lt
  refine ⟨⟨?_, ?_⟩, ((Below.refl _ _).grown hg (by omega) (fun k hk => (own_lt h.row k hk).1)).setCell (Nat.le_refl _) _⟩
  · simpa using hb.set_ 1 v'
  · rw [byteCells_app, List.length_append]
    refine ⟨ho.1, ?_⟩
    rcases ho.2 with h' | ⟨k, cap, cur, h1, h2, h3, h4⟩
    · exact .inl h'
    · refine .inr ⟨k, cap, cur, h1, h2, ?_, h4⟩
      have hk : k ≠ g := by
        rintro rfl
        exact own_blk_ne ho hb (by decide) (by rw [h1]; rfl)
      rw [Below.heap_setCell _ _ _ _ hk]; exact h3
theorem byte_info : (Tryd.prog.info? 5).map (fun i => (i.zero, i.size, i.bytes)) = some (some (.int .u8 0), 1, 1) := by kernel_rfl

theorem wr_info : (Tryd.prog.info? 93).map (fun i => (i.zero, i.size, i.bytes)) = some (some (.agg #[.pointer none, .slice none 0 0]), 2, 32) := by kernel_rfl
theorem neq_nil_ptr (a : Addr) (w : World) : (binOp .neq 90 (.pointer none) (.pointer (some a))).run Tryd.prog w = .ok (.bool true) w := by
  have h : ∀ d : Nat, (Op.equalIn (d + 1) 90 (.pointer none) (.pointer (some a))).run Tryd.prog w = .ok false w := fun d => by
    simp [Op.equalIn, run_underlying Tryd.underlying90]
  simp only [binOp]
  simp [Op.equal, Op.maxDepth, h 9999]
theorem neq_same_ptr (a : Addr) (w : World) : (binOp .neq 90 (.pointer (some a)) (.pointer (some a))).run Tryd.prog w = .ok (.bool false) w := by
  obtain ⟨i0, hi0, hz0, hz1, hz2⟩ := info_parts wr_info
  exact Lib.run_neq_ptr_same w a Tryd.underlying90 hi0
set_option maxRecDepth 20000 in
set_option maxHeartbeats 1600000 in
theorem own_any (g : Nat) (v : Value) (bs : List UInt8) (w : World) (h : WrV w g v bs) :
    Calls Tryd.prog 83 #[.pointer (some ⟨g, 0, none⟩)] w fun e w' => e = .returned (.tuple #[]) ∧ Below g w w' ∧ WrO w' g v bs ∧ Keep w w' g v := by
  rcases h with ⟨rfl, rfl, h⟩ | h
  · have c0 := h.cell 0
    have c1 := h.cell 1
    have f0 := h.frozen 0
    have f1 := h.frozen 1
    have hl := h.lt
    have q0 := neq_nil_ptr ⟨g, 0, none⟩
    simp at c0 c1
    go_enter Tryd.func83, Tryd.ntmps83
    go_wp2
    go_end0
    refine ⟨rfl, ((Below.refl _ _).setCell (p := ⟨g, 1, none⟩) (Nat.le_refl _) _).setCell (p := ⟨g, 0, none⟩) (Nat.le_refl _) _, ⟨?_, World.ownsRow_nil _ _ _ _⟩, fun b _ hb _ => ?_⟩
    · simpa using (h.set_ 1 (.slice none 0 0)).set_ 0 (.pointer (some ⟨g, 0, none⟩))
    · rw [Below.heap_setCell _ _ _ _ hb, Below.heap_setCell _ _ _ _ hb]
  · have c0 := h.blk.cell 0
    have c1 := h.blk.cell 1
    have hl := h.blk.lt
    have q0 := neq_same_ptr ⟨g, 0, none⟩
    simp at c0 c1
    go_enter Tryd.func83, Tryd.ntmps83
    go_wp2
    go_end0
    exact ⟨rfl, Below.refl _ _, h, fun _ _ _ _ => rfl⟩
theorem WrO.at1 {w w2 : World} {g : Nat} {v : Value} {bs : List UInt8} (h : WrO w g v bs) (hg : w.grownBy w2 v.ownBlock) :
    w2.cell? ⟨g, 1, none⟩ = some v ∧ w2.frozen? ⟨g, 1, none⟩ = false := by
  have hb := h.blk.grown hg (fun e => h.ne e.symm)
  exact ⟨by simpa using hb.cell 1, hb.frozen 1⟩
theorem WrO.at2 {w w2 : World} {g : Nat} {v : Value} {bs : List UInt8} {o : Obj} (h : WrO w g v bs) (hg : (w.drew.alloc o).grownBy w2 v.ownBlock) :
    w2.cell? ⟨g, 1, none⟩ = some v ∧ w2.frozen? ⟨g, 1, none⟩ = false := by
  have hb := ((h.blk.drew).alloc o).grown hg (fun e => h.ne e.symm)
  exact ⟨by simpa using hb.cell 1, hb.frozen 1⟩
theorem WrO.add {w w2 : World} {g : Nat} {v v2 : Value} {bs : List UInt8} {o : Obj} {b : UInt8} (h : WrO w g v bs) (ho : w2.ownsRow g 5 1 v2 (bs.length + 1) (byteCells bs ++ [.int .u8 (b.toNat : Int)])) (hg : (w.drew.alloc o).grownBy w2 v.ownBlock) : WrO (w2.setCell ⟨g, 1, none⟩ v2) g v2 (bs ++ [b]) ∧ Below g w (w2.setCell ⟨g, 1, none⟩ v2) := by
  have hb : Below w.heap.size w (w.drew.alloc o) := (Below.refl _ _).drew.alloc (Nat.le_refl _) o
  have hg' := h.blk.lt
  have := (h.bel hb).put (ys := [b]) (by simpa [byteCells] using ho) hg
  exact ⟨this.1, (hb.mono (by omega)).trans this.2⟩
theorem WrV.wr {w : World} {g : Nat} {v : Value} {bs : List UInt8} (h : WrV w g v bs) : Wr w g bs := by
  rcases h with ⟨h1, _, h2⟩ | h
  · exact Or.inl ⟨h1, h2⟩
  · exact Or.inr ⟨v, h⟩
/-- a writer's row lies below what is made behind it -/
theorem WrV.row_lt {w : World} {g : Nat} {v : Value} {bs : List UInt8} (h : WrV w g v bs) : ∀ q, v.ownBlock = some q → q < w.heap.size := by
  rcases h with ⟨_, rfl, _⟩ | h
  · intro q hq; cases hq
  · intro q hq; exact (own_lt h.row q hq).2
theorem WrV.bel {w w' : World} {g : Nat} {v : Value} {bs : List UInt8} (h : WrV w g v bs) (hb : Below w.heap.size w w') : WrV w' g v bs := by
  rcases h with ⟨h1, h2, h3⟩ | h
  · exact Or.inl ⟨h1, h2, h3.below hb h3.lt⟩
  · exact Or.inr (h.bel hb)
theorem keep_add {w0 w w2 : World} {g : Nat} {v0 v v2 : Value} {o : Obj} (hk : Keep w0 w g v0) (hr : ∀ q, v.ownBlock = some q → v0.ownBlock = some q ∨ w0.heap.size ≤ q) (hg : (w.drew.alloc o).grownBy w2 v.ownBlock) (hsz : w0.heap.size ≤ w.heap.size)
    (hn : ∀ q, v2.ownBlock = some q → v.ownBlock = some q ∨ w0.heap.size ≤ q) : (∀ u, Keep w0 (w2.setCell ⟨g, 1, none⟩ u) g v0) ∧ ∀ q, v2.ownBlock = some q → v0.ownBlock = some q ∨ w0.heap.size ≤ q := by
  refine ⟨fun u b hb hbg hbv => ?_, fun q hq => ?_⟩
  · have hne : some b ≠ v.ownBlock := by
      intro e
      rcases hr b e.symm with h | h
      · exact hbv h
      · omega
    have h1 : b < w.drew.heap.size := by show b < w.heap.size; omega
    rw [Below.heap_setCell _ _ _ _ hbg, hg.block b (by simp; omega) hne, Below.heap_alloc w.drew o b h1]
    exact hk b hb hbg hbv
  · rcases hn q hq with h | h
    · exact hr q h
    · exact Or.inr h
theorem int_one (t : IntKind) (b : Int) : ∀ u ∈ [Value.int t b], u.oneCell' = true := by intro u hu; simp at hu; subst hu; rfl
theorem reads_one (w : World) (t : TypeId) (u : Value) : Reads (w.alloc (.cells #[u] t)) (w.heap.size + 1) 1 (some ⟨w.heap.size, 0, none⟩) 1 [u] :=
  ⟨rfl, fun _ => ⟨_, rfl, Nat.lt_succ_self _, fun j x hx => by
    match j, hx with
    | 0, hx => simp at hx; subst hx; simp [Addr.add]⟩⟩
theorem byteN_val (n k : Nat) : ((byteN n k).toNat : Int) = ((n / 2 ^ (8 * k) % 256 : Nat) : Int) := by unfold byteN; simp
theorem wrap_byte (n k : Nat) : IntKind.u8.wrap ((n : Int) / 2 ^ (8 * (k : Int)).toNat) = ((byteN n k).toNat : Int) := by
  have e : (8 * (k : Int)).toNat = 8 * k := by omega
  rw [byteN_val, e]; simp [IntKind.wrap, IntKind.bits, IntKind.signed]
set_option maxRecDepth 20000 in
set_option maxHeartbeats 1600000 in
theorem put_on (g : Nat) (v0 : Value) (bs : List UInt8) (N n : Nat) (w : World) (h : WrV w g v0 bs) (h1 : 1 ≤ N) (h8 : N ≤ 8) (hn : n < 18446744073709551616) (hl : bs.length ≤ 1000000) :
    Calls Tryd.prog 58 #[.pointer (some ⟨g, 0, none⟩), .int .i64 N, .int .u64 n] w fun e w' => e = .returned (.tuple #[]) ∧ Below g w w' ∧ (∃ v, WrO w' g v (bs ++ putN n N)) ∧ Keep w w' g v0 := by
  obtain ⟨i0, hi0, hz0, hz1, hz2⟩ := info_parts byte_info
  have hn1 : (1 : Int) ≤ (N : Int) := by omega
  have hn8 : (N : Int) ≤ 8 := by omega
  go_enter Tryd.func58, Tryd.ntmps58
  go_wp2_with (go_at_call 83; refine (own_any g v0 bs _ h).mono ?_; rintro e w1 ⟨rfl, hb1, ho1, hk1⟩)
  go_loopw [6, 20] (fun _ i w' => ∃ (k : Nat) (v : Value), i = .int .i64 k ∧ k ≤ N ∧ WrO w' g v (bs ++ putN n k) ∧ Below g w w' ∧ Keep w w' g v0 ∧ (∀ q, v.ownBlock = some q → v0.ownBlock = some q ∨ w.heap.size ≤ q) ∧ w.heap.size ≤ w'.heap.size) (fun _ i _ => N - (intOf i).toNat)
  case atStart => exact ⟨0, v0, rfl, Nat.zero_le _, by simpa [putN] using ho1, hb1, hk1, fun q hq => Or.inl hq, hb1.size⟩
  case round =>
    obtain ⟨k, v, rfl, hk, ho, hbw, hkp, hrw, hsz⟩ := hrel
    have HKP := Lib.hid hkp; have HRW := Lib.hid hrw; clear hkp hrw
    by_cases hlt : k < N
    · have hlt' : (k : Int) < (N : Int) := by omega
      obtain ⟨xs, hxs⟩ : ∃ xs, xs = bs ++ putN n k := ⟨_, rfl⟩
      rw [← hxs] at ho
      have hxl : xs.length ≤ 1000008 := by rw [hxs, List.length_append, putN_len]; omega
      have HX := Lib.hid hxs
      clear hxs
      have c1 := ho.blk.cell 1
      have f1 := ho.blk.frozen 1
      have hgl := ho.blk.lt
      simp at c1
      go_wp2
      have hrow := Lib.hid ho.row
      have e1 : IntKind.i64.wrap (8 * (k : Int)) = 8 * (k : Int) := by simp [IntKind.wrap, IntKind.bits, IntKind.signed]; omega
      go_region_law (refine step_append_any _ rfl (.tmp 27) (.tmp 33) 91 rfl g 5 i0 _ 1 1 Tryd.underlying91 hi0 hz0 hz1 hz2 rfl (by decide) v xs.length (byteCells xs) rfl (hrow.out.alloc _) _ _ 1 1 [.int .u8 (IntKind.u8.wrap ((n : Int) / 2 ^ (8 * (k : Int)).toNat))] rfl (reads_one _ _ _) (int_one _ _) (by unfold maxLen; omega) (by omega) (by simp; omega) ?_; intro v2 w2 hown2 hg2 hat2; obtain ⟨b2, cap2, rfl⟩ := Joins.ownsRow_form hown2 (by omega); obtain ⟨c2, f2⟩ := ho.at2 hg2)
      all_goals
        rw [wrap_byte] at hown2
        obtain ⟨ho2, hb2⟩ := ho.add hown2 hg2
        have HK2 := Lib.hid (keep_add HKP.out HRW.out hg2 hsz (fun q hq => hat2.elim (fun e => Or.inl (e ▸ hq)) (fun e => Or.inr (by rw [e] at hq; injection hq with hq; simp at hq; omega))))
        have hsz2 := hb2.size
        clear hown2 hg2 hat2 c2 f2
        go_wp2
        go_roundw
        case rel => exact ⟨k + 1, _, by go_num, by omega, by rw [putN_succ, ← List.append_assoc, ← HX.out]; exact ho2, hbw.trans hb2, HK2.out.1 _, HK2.out.2, by omega⟩
        case measure => simp [intOf]; omega
    · obtain rfl : k = N := by omega
      have hlt' : ¬ (k : Int) < (k : Int) := by omega
      go_wp2
      go_end0
      exact ⟨rfl, hbw, ⟨v, ho⟩, HKP.out⟩
theorem put_fr (g : Nat) (v : Value) (bs : List UInt8) (N : Int) (n : Nat) (w : World) (h : WrV w g v bs) (hn : n < 18446744073709551616) (hl : bs.length ≤ 1000000) :
    Calls Tryd.prog 58 #[.pointer (some ⟨g, 0, none⟩), .int .i64 N, .int .u64 n] w fun e w' => e = .returned (.tuple #[]) ∧ Below g w w' ∧ Wr w' g (bs ++ putL N n) ∧ Keep w w' g v := by
  by_cases hN : 1 ≤ N ∧ N ≤ 8
  · obtain ⟨k, rfl⟩ : ∃ k : Nat, N = (k : Int) := ⟨N.toNat, by omega⟩
    refine (put_on g v bs k n w h (by omega) (by omega) hn hl).mono ?_
    rintro e w' ⟨h1, h2, ⟨v, h3⟩, h4⟩
    exact ⟨h1, h2, Or.inr ⟨v, by unfold putL; rw [if_pos hN]; exact h3⟩, h4⟩
  · have e0 : bs ++ putL N n = bs := by unfold putL; rw [if_neg hN, List.append_nil]
    rw [e0]
    have hN' : N < 1 ∨ (1 ≤ N ∧ 8 < N) := by omega
    clear hN
    rcases hN' with h1 | ⟨h1, h2⟩
    all_goals
      go_enter Tryd.func58, Tryd.ntmps58
      go_wp2
      refine bodyPost_ret (results_none rfl _ _ _) rfl ?_
      exact ⟨rfl, Below.refl _ _, h.wr, fun _ _ _ _ => rfl⟩
theorem put_any (g : Nat) (bs : List UInt8) (N : Int) (n : Nat) (w : World) (h : Wr w g bs) (hn : n < 18446744073709551616) (hl : bs.length ≤ 1000000) :
    Calls Tryd.prog 58 #[.pointer (some ⟨g, 0, none⟩), .int .i64 N, .int .u64 n] w fun e w' => e = .returned (.tuple #[]) ∧ Below g w w' ∧ Wr w' g (bs ++ putL N n) := by
  obtain ⟨v, hv⟩ := h.row
  exact (put_fr g v bs N n w hv hn hl).mono fun e w' ⟨h1, h2, h3, _⟩ => ⟨h1, h2, h3⟩
set_option maxRecDepth 20000 in
set_option maxHeartbeats 1600000 in
theorem raw_fr (g : Nat) (v : Value) (bs : List UInt8) (s : ByteArray) (w : World) (h : WrV w g v bs) (hl : bs.length + s.size ≤ 10000000) :
    Calls Tryd.prog 69 #[.pointer (some ⟨g, 0, none⟩), .string s] w fun e w' => e = .returned (.tuple #[]) ∧ Below g w w' ∧ Wr w' g (bs ++ s.data.toList) ∧ Keep w w' g v := by
  obtain ⟨i0, hi0, hz0, hz1, hz2⟩ := info_parts byte_info
  go_enter Tryd.func69, Tryd.ntmps69
  go_wp2_with fail
  refine (own_any g v bs _ h).mono ?_; rintro e w1 ⟨rfl, hb1, ho1, hk1⟩
  have c1 := ho1.blk.cell 1
  have hgl := ho1.blk.lt
  have HK1 := Lib.hid hk1; clear hk1
  simp at c1
  go_wp2_with (at_builtin; refine Lib.wpList_append_own_string _ rfl (.tmp 12) (.tmp 13) 91 9 rfl g 5 i0 Tryd.underlying91 Tryd.underlying9 hi0 hz0 hz1 hz2 v bs.length (byteCells bs) rfl ho1.row s rfl (by unfold maxLen; omega) (by omega) (by omega) ?_; intro v2 w2 hown2 hg2 _; obtain ⟨c2, f2⟩ := ho1.at1 hg2; rcases Joins.ownsRow_forms hown2 with ⟨rfl, _⟩ | ⟨b2, cap2, rfl⟩)
  all_goals
    obtain ⟨ho2, hb2⟩ := ho1.put (ys := s.data.toList) (by rw [Array.length_toList]; exact hown2) hg2
    go_end0
    refine ⟨rfl, hb1.trans hb2, Or.inr ⟨_, ho2⟩, fun b hb hbg hbv => ?_⟩
    rw [Below.heap_setCell _ _ _ _ hbg, hg2.block b (Nat.lt_of_lt_of_le hb hb1.size) (fun e => hbv e.symm), HK1.out b hb hbg hbv]
theorem raw_any (g : Nat) (bs : List UInt8) (s : ByteArray) (w : World) (h : Wr w g bs) (hl : bs.length + s.size ≤ 10000000) :
    Calls Tryd.prog 69 #[.pointer (some ⟨g, 0, none⟩), .string s] w fun e w' => e = .returned (.tuple #[]) ∧ Below g w w' ∧ Wr w' g (bs ++ s.data.toList) := by
  obtain ⟨v, hv⟩ := h.row
  exact (raw_fr g v bs s w hv hl).mono fun e w' ⟨h1, h2, h3, _⟩ => ⟨h1, h2, h3⟩
theorem conv_row {w : World} {base : Nat} {v : Value} {l : List UInt8} (h : w.ownsRow base 5 1 v l.length (byteCells l)) :
    (convert 91 9 v).run Tryd.prog w = .ok (.string ⟨l.toArray⟩) w := by
  rcases h.2 with ⟨rfl, h0⟩ | ⟨g, cap, cur, rfl, _, h3, _, _, _, h4⟩
  · have : l = [] := List.eq_nil_of_length_eq_zero h0
    subst this
    exact Lib.run_convert_nil_bytes w _ _ _ 0 Tryd.underlying91 Tryd.underlying5 Tryd.underlying9
  · exact run_convert_bytes_back w _ _ _ _ cap l Tryd.underlying91 Tryd.underlying5 Tryd.underlying9 (Lib.bytes_of_row h3 (by simpa using h4))
set_option maxRecDepth 20000 in
set_option maxHeartbeats 1600000 in
theorem out_any (g : Nat) (bs : List UInt8) (w : World) (h : Wr w g bs) :
    Calls Tryd.prog 59 #[.pointer (some ⟨g, 0, none⟩)] w fun e w' => e = .returned (.string ⟨bs.toArray⟩) ∧ w = w' := by
  obtain ⟨o, v, hb, hr⟩ : ∃ o v, Blk w g 93 #[o, v] ∧ w.ownsRow g 5 1 v bs.length (byteCells bs) := by
    rcases h with ⟨rfl, h⟩ | ⟨v, h⟩
    · exact ⟨_, _, h, World.ownsRow_nil _ _ _ _⟩
    · exact ⟨_, _, h.blk, h.row⟩
  have c1 := hb.cell 1
  have hgl := hb.lt
  have hcv := conv_row hr
  simp at c1
  go_enter Tryd.func59, Tryd.ntmps59
  go_wp2
  go_ret
  exact ⟨rfl, rfl⟩
end Go.Proofs.YtcjjgfejamddjaaDoor.Lit
