/-
  THE REFERENCE's reader, walked.
-/
import Derived.Test.YtcjjgfejamddjaaDoorRrQ
import Derived.Test.YtcjjgfejamddjaaDoorEnc
import Derived.Test.YtcjjgfejamddjaaDoorRecE
import Derived.Laws.CopyRow
import Derived.Laws.CopyOwn
import Derived.Deep.WholeRow
import Derived.Deep.Cut
import Derived.Deep.RegionHeld3
import Derived.Deep.QuietTactic
import Derived.BigQuiet
namespace Go.Proofs.YtcjjgfejamddjaaDoor.Rf
open Go.ChangeShapes Go.WideShapes Go.ChangeAt Go.RowKit
open Go.Proofs.YtcjjgfejamddjaaDoor
open Go.Proofs.YtcjjgfejamddjaaDoor.Wd
open Go.Proofs.YtcjjgfejamddjaaDoor.Lit
open Go.Proofs.YtcjjgfejamddjaaDoor.Rec
set_option linter.unusedVariables false
def aggT : TypeDesc → Bool
  | .struct _ => true
  | .array _ _ => true
  | _ => false
theorem run_row {P : Program} (w : World) (g : Nat) (t ty : TypeId) (cs : Array Value) (d : TypeDesc) (hg : w.heap[g]? = some (.cells cs t (0, 0)))
    (hu : P.underlying ty = some d) (hd : aggT d = true) (hi : (P.info? ty).map (·.size) = some cs.size) :
    (loadVar ty ⟨g, 0, none⟩).run P w = .ok (.agg cs) w := run_loadVar_row w g t ty cs (0, 0) d hg hu (by cases d <;> first | rfl | (unfold aggT at hd; exact hd)) hi
/-- what a function answers whose first result is a struct in a block -/
theorem res_ct {fn : Func} {p q : Tmp} {T : TypeId} (h : fn.results = #[.cell p T, .tmp q]) (tmps : Array Value) (w : World) (g : Nat) (t : TypeId) (cs : Array Value) (v : Value) (d : TypeDesc)
    (hp : tmps.getD p undef = .pointer (some ⟨g, 0, none⟩)) (hq : tmps.getD q undef = v) (hg : Blk w g t cs)
    (hu : Tryd.prog.underlying T = some d) (hd : aggT d = true) (hi : (Tryd.prog.info? T).map (·.size) = some cs.size) :
    (results fn tmps).run Tryd.prog w = .ok (.tuple #[.agg cs, v]) w := by
  have hp' : tmps[p]?.getD undef = .pointer (some ⟨g, 0, none⟩) := by simpa using hp
  have hq' : tmps[q]?.getD undef = v := by simpa using hq
  simp [results, h, hp', hq', asAddr, run_row w g t T cs d hg hu hd hi]
abbrev rdA (s : ByteArray) (b : Bool) : Array Value := #[.string s, .bool b]
set_option maxRecDepth 20000 in
set_option maxHeartbeats 1600000 in
theorem raw_4 (s : ByteArray) (w : World) (h : 4 ≤ s.size) (hs : s.size ≤ 1000) :
    Calls Tryd.prog 90 #[.agg (rdA s false), .int .i64 4] w fun e w' => e = .returned (.tuple #[.agg (rdA (s.extract 4 s.size) false), .string (s.extract 0 4)]) ∧ Below w.heap.size w w' := by
  have x0 := (Blk.new w 105 #[.string s, .bool false]).alloc (.cells #[.string ⟨#[]⟩, .bool false] 105)
  have y0 := blk_at (w.alloc (.cells #[.string s, .bool false] 105)) 105 #[.string ⟨#[]⟩, .bool false] (sz1 w _ rfl)
  have b0 : Below w.heap.size w ((w.alloc (.cells #[.string s, .bool false] 105)).alloc (.cells #[.string ⟨#[]⟩, .bool false] 105)) := ((Below.refl _ _).alloc (Nat.le_refl _) _).alloc (by simp) _
  have h1 : (4 : Int) ≤ (s.size : Int) := by omega
  have h2 : ¬ (s.size : Int) < 4 := by omega
  have h3 : ¬ (4 : Int) < 0 := by decide
  go_enter Tryd.func90, Tryd.ntmps90
  go_upto_region 3 with fail
  generalize ((w.alloc (.cells #[.string s, .bool false] 105)).alloc (.cells #[.string ⟨#[]⟩, .bool false] 105)) = W at *
  have c0 : W.cell? ⟨w.heap.size, 0, none⟩ = some (.string s) := x0.cell 0
  have f0 := y0.frozen 0
  have f1 := y0.frozen 1
  have d0 := y0.cell 0
  have d1 := y0.cell 1
  simp at d0 d1
  have hY : Blk ((W.setCell ⟨w.heap.size + 1, 0, none⟩ (.string (s.extract 4 s.size))).setCell ⟨w.heap.size + 1, 1, none⟩ (.bool false)).drew (w.heap.size + 1) 105 (rdA (s.extract 4 s.size) false) := Blk.drew ((y0.set_ 0 _).set_ 1 _)
  have hB := ((b0.setCell (p := ⟨w.heap.size + 1, 0, none⟩) (Nat.le_succ _) (.string (s.extract 4 s.size))).setCell (p := ⟨w.heap.size + 1, 1, none⟩) (Nat.le_succ _) (.bool false)).drew
  go_region
  all_goals
    go_wp2_with fail
    exact bodyPost_ret (res_ct rfl _ _ _ _ _ _ _ rfl rfl hY Tryd.underlying105 rfl (by kernel_rfl)) rfl ⟨rfl, hB⟩
theorem leN_drop {l : List UInt8} {k : Nat} (h : k < l.length) : leN (l.drop k) = (l[k]).toNat + 256 * leN (l.drop (k + 1)) := by
  rw [List.drop_eq_getElem_cons h]; rfl
set_option maxRecDepth 20000 in
set_option maxHeartbeats 1600000 in
theorem get_4 (s : ByteArray) (w : World) (h : 4 ≤ s.size) (hs : s.size ≤ 1000) :
    Calls Tryd.prog 84 #[.agg (rdA s false), .int .i64 4] w fun e w' => e = .returned (.tuple #[.agg (rdA (s.extract 4 s.size) false), .int .u64 (leN (s.extract 0 4).data.toList : Nat)]) ∧ Below w.heap.size w w' := by
  have x0 := (Blk.new w 105 #[.string s, .bool false]).alloc (.cells #[.string ⟨#[]⟩, .bool false] 105)
  have y0 := blk_at (w.alloc (.cells #[.string s, .bool false] 105)) 105 #[.string ⟨#[]⟩, .bool false] (sz1 w _ rfl)
  have b0 : Below w.heap.size w ((w.alloc (.cells #[.string s, .bool false] 105)).alloc (.cells #[.string ⟨#[]⟩, .bool false] 105)) := ((Below.refl _ _).alloc (Nat.le_refl _) _).alloc (by simp) _
  have hr4 := fun w => raw_4 s w h hs
  have hz : (s.extract 0 4).size = 4 := by rw [ByteArray.size_extract]; omega
  generalize s.extract 0 4 = x at *
  generalize s.extract 4 s.size = r at *
  clear h hs
  go_enter Tryd.func84, Tryd.ntmps84
  go_upto_region 3 with fail
  generalize ((w.alloc (.cells #[.string s, .bool false] 105)).alloc (.cells #[.string ⟨#[]⟩, .bool false] 105)) = W at *
  go_wp2_with (first | refine wpList_row_g rfl 105 _ rfl _ rfl _ _ _ _ x0 Tryd.underlying105 rfl (by kernel_rfl) ?_ | (go_at_call 90 ; refine (hr4 _).mono ?_; rintro e w1 ⟨rfl, hb1⟩; have x1 := x0.below hb1 x0.lt) | refine wpList_store_g rfl 105 _ _ rfl rfl _ 0 (rdA r false) (rdA r false) rfl rfl _ _ x1 (by show 0 + 2 ≤ 2; decide) (by kernel_rfl) (by kernel_rfl) (by kernel_rfl) ?_)
  have b2 := below_row (b0.trans (hb1.mono b0.size)) (Nat.le_refl _) (rdA r false)
  have x2 := Blk.row x1 (rdA r false)
  have y2 := Blk.rowFar (y0.below hb1 y0.lt) (show w.heap.size + 1 ≠ w.heap.size by omega) (rdA r false)
  clear x1 b0 hb1 x0 y0 hr4
  generalize w1.setRow w.heap.size (rdA r false) = W1 at *
  go_loopw [7, 8] (fun v i wr => ∃ k : Nat, i = .int .i64 ((k : Int) - 1) ∧ k ≤ 4 ∧ v = .int .u64 (leN (x.data.toList.drop k) : Nat) ∧ wr = W1) (fun _ i _ => (intOf i + 1).toNat)
  case atStart => exact ⟨4, rfl, Nat.le_refl _, by rw [List.drop_eq_nil_of_le (by rw [Array.length_toList]; exact Nat.le_of_eq hz)]; rfl, rfl⟩
  case round =>
    obtain ⟨k, rfl, hk, rfl, rfl⟩ := hrel
    by_cases h0 : k = 0
    · subst h0
      go_wp2_with (first | refine wpList_row_g rfl 105 _ rfl _ rfl _ _ _ _ x2 Tryd.underlying105 rfl (by kernel_rfl) ?_ | refine wpList_store_g rfl 105 _ _ rfl rfl _ 0 (rdA r false) (rdA r false) rfl rfl _ _ y2 (by show 0 + 2 ≤ 2; decide) (by kernel_rfl) (by kernel_rfl) (by kernel_rfl) ?_)
      exact bodyPost_ret (res_ct rfl _ _ _ _ _ _ _ rfl rfl (Blk.row y2 _) Tryd.underlying105 rfl (by kernel_rfl)) rfl ⟨rfl, below_row b2 (Nat.le_succ _) _⟩
    · obtain ⟨j, rfl⟩ : ∃ j, k = j + 1 := ⟨k - 1, by omega⟩
      have hj : j < x.size := by omega
      have hjl : j < x.data.toList.length := by rw [Array.length_toList]; exact hj
      have hg : ((j + 1 : Nat) : Int) - 1 = (j : Int) := by omega
      have hge : ¬ ((j : Int)) < 0 := by omega
      have hji : (j : Int) < (x.size : Int) := by omega
      have hN := Lib.hid (leN_drop hjl)
      have hb : (x[j]).toNat < 256 := (x[j]).toNat_lt
      have he : x[j] = x.data.toList[j] := by rw [Array.getElem_toList]; rfl
      have hl := leN_lt (x.data.toList.drop (j + 1))
      have hl2 : (256 : Nat) ^ (x.data.toList.drop (j + 1)).length ≤ 256 ^ 3 := Nat.pow_le_pow_right (by decide) (by rw [List.length_drop, Array.length_toList]; show x.size - (j + 1) ≤ 3; omega)
      rw [← he] at hN
      generalize leN (x.data.toList.drop (j + 1)) = v at *
      have hv : v < 16777216 := by omega
      have h1 : IntKind.u64.wrap (256 * (v : Int)) = 256 * (v : Int) := by rw [IntKind.wrap_u64]; omega
      have h2 : IntKind.u64.wrap ((x[j]).toNat : Int) = ((x[j]).toNat : Int) := by rw [IntKind.wrap_u64]; omega
      have h3 : IntKind.u64.wrap (256 * (v : Int) + ((x[j]).toNat : Int)) = 256 * (v : Int) + ((x[j]).toNat : Int) := by rw [IntKind.wrap_u64]; omega
      rw [hg]
      clear hl hl2 hg he
      go_wp2_with fail
      go_roundw
      case rel => exact ⟨j, rfl, by omega, by rw [hN.out]; congr 1; push_cast; omega, trivial⟩
      case measure => simp [intOf]
set_option maxRecDepth 20000 in
set_option maxHeartbeats 1600000 in
theorem signed_4 (s : ByteArray) (w : World) (h : 4 ≤ s.size) (hs : s.size ≤ 1000) :
    Calls Tryd.prog 63 #[.agg (rdA s false), .int .i64 4] w fun e w' => e = .returned (.tuple #[.agg (rdA (s.extract 4 s.size) false), .int .i64 (sgn 4 (leN (s.extract 0 4).data.toList))]) ∧ Below w.heap.size w w' := by
  have x0 := (Blk.new w 105 #[.string s, .bool false]).alloc (.cells #[.string ⟨#[]⟩, .bool false] 105)
  have y0 := blk_at (w.alloc (.cells #[.string s, .bool false] 105)) 105 #[.string ⟨#[]⟩, .bool false] (sz1 w _ rfl)
  have b0 : Below w.heap.size w ((w.alloc (.cells #[.string s, .bool false] 105)).alloc (.cells #[.string ⟨#[]⟩, .bool false] 105)) := ((Below.refl _ _).alloc (Nat.le_refl _) _).alloc (by simp) _
  have hr4 := fun w => get_4 s w h hs
  have hl : leN (s.extract 0 4).data.toList < 4294967296 := by
    have := leN_lt (s.extract 0 4).data.toList
    have e : (s.extract 0 4).data.toList.length = 4 := by rw [Array.length_toList]; show (s.extract 0 4).size = 4; rw [ByteArray.size_extract]; omega
    rwa [e] at this
  generalize leN (s.extract 0 4).data.toList = v at *
  generalize s.extract 4 s.size = r at *
  clear h hs
  by_cases hv : v < 2147483648
  · have e : sgn 4 v = (v : Int) := by unfold sgn; exact if_pos hv
    rw [e]
    have h1 : ¬ (2147483648 : Int) ≤ (v : Int) := by omega
    have h2 : IntKind.i64.wrap (v : Int) = (v : Int) := by simp [IntKind.wrap, IntKind.bits, IntKind.signed]; omega
    clear e hl hv
    go_enter Tryd.func63, Tryd.ntmps63
    go_upto_region 1 with fail
    generalize ((w.alloc (.cells #[.string s, .bool false] 105)).alloc (.cells #[.string ⟨#[]⟩, .bool false] 105)) = W at *
    go_upto_region 2 with (first | refine wpList_row_g rfl 105 _ rfl _ rfl _ _ _ _ x0 Tryd.underlying105 rfl (by kernel_rfl) ?_ | (go_at_call 84 ; refine (hr4 _).mono ?_; rintro e w1 ⟨rfl, hb1⟩; have x1 := x0.below hb1 x0.lt) | refine wpList_store_g rfl 105 _ _ rfl rfl _ 0 (rdA r false) (rdA r false) rfl rfl _ _ x1 (by show 0 + 2 ≤ 2; decide) (by kernel_rfl) (by kernel_rfl) (by kernel_rfl) ?_)
    have b2 := below_row (b0.trans (hb1.mono b0.size)) (Nat.le_refl _) (rdA r false)
    have x2 := Blk.row x1 (rdA r false)
    have y2 := Blk.rowFar (y0.below hb1 y0.lt) (show w.heap.size + 1 ≠ w.heap.size by omega) (rdA r false)
    clear x0 y0 b0 x1 hb1 hr4
    generalize w1.setRow w.heap.size (rdA r false) = W1 at *
    go_upto_if 26 with fail
    rw [show decide ((2147483648 : Int) ≤ (v : Int)) = false by rw [decide_eq_false_iff_not]; omega]
    clear h1
    go_wp2_with (first | refine wpList_row_g rfl 105 _ rfl _ rfl _ _ _ _ x2 Tryd.underlying105 rfl (by kernel_rfl) ?_ | refine wpList_store_g rfl 105 _ _ rfl rfl _ 0 (rdA r false) (rdA r false) rfl rfl _ _ y2 (by show 0 + 2 ≤ 2; decide) (by kernel_rfl) (by kernel_rfl) (by kernel_rfl) ?_)
    exact bodyPost_ret (res_ct rfl _ _ _ _ _ _ _ rfl rfl (Blk.row y2 _) Tryd.underlying105 rfl (by kernel_rfl)) rfl ⟨rfl, below_row b2 (Nat.le_succ _) _⟩
  · have e : sgn 4 v = (v : Int) - 4294967296 := by unfold sgn; exact if_neg hv
    rw [e]
    have h1 : (2147483648 : Int) ≤ (v : Int) := by omega
    have h2 : IntKind.i64.wrap (v : Int) = (v : Int) := by simp [IntKind.wrap, IntKind.bits, IntKind.signed]; omega
    have h3 : IntKind.i64.wrap ((v : Int) - 4294967296) = (v : Int) - 4294967296 := by simp [IntKind.wrap, IntKind.bits, IntKind.signed]; omega
    clear e hl hv
    go_enter Tryd.func63, Tryd.ntmps63
    go_upto_region 1 with fail
    generalize ((w.alloc (.cells #[.string s, .bool false] 105)).alloc (.cells #[.string ⟨#[]⟩, .bool false] 105)) = W at *
    go_upto_region 2 with (first | refine wpList_row_g rfl 105 _ rfl _ rfl _ _ _ _ x0 Tryd.underlying105 rfl (by kernel_rfl) ?_ | (go_at_call 84 ; refine (hr4 _).mono ?_; rintro e w1 ⟨rfl, hb1⟩; have x1 := x0.below hb1 x0.lt) | refine wpList_store_g rfl 105 _ _ rfl rfl _ 0 (rdA r false) (rdA r false) rfl rfl _ _ x1 (by show 0 + 2 ≤ 2; decide) (by kernel_rfl) (by kernel_rfl) (by kernel_rfl) ?_)
    have b2 := below_row (b0.trans (hb1.mono b0.size)) (Nat.le_refl _) (rdA r false)
    have x2 := Blk.row x1 (rdA r false)
    have y2 := Blk.rowFar (y0.below hb1 y0.lt) (show w.heap.size + 1 ≠ w.heap.size by omega) (rdA r false)
    clear x0 y0 b0 x1 hb1 hr4
    generalize w1.setRow w.heap.size (rdA r false) = W1 at *
    go_upto_region 3 with fail
    have c0 : W1.cell? ⟨w.heap.size, 0, none⟩ = some (.string r) := x2.cell 0
    have c1 : W1.cell? ⟨w.heap.size, 1, none⟩ = some (.bool false) := x2.cell 1
    have d0 := y2.cell 0
    have d1 := y2.cell 1
    simp at d0 d1
    have f0 := y2.frozen 0
    have f1 := y2.frozen 1
    have hY : Blk ((W1.setCell ⟨w.heap.size + 1, 0, none⟩ (.string r)).setCell ⟨w.heap.size + 1, 1, none⟩ (.bool false)).drew (w.heap.size + 1) 105 (rdA r false) := Blk.drew ((y2.set_ 0 _).set_ 1 _)
    have hB := ((b2.setCell (p := ⟨w.heap.size + 1, 0, none⟩) (Nat.le_succ _) (.string r)).setCell (p := ⟨w.heap.size + 1, 1, none⟩) (Nat.le_succ _) (.bool false)).drew
    go_region
    all_goals
      go_wp2_with fail
      exact bodyPost_ret (res_ct rfl _ _ _ _ _ _ _ rfl rfl hY Tryd.underlying105 rfl (by kernel_rfl)) rfl ⟨rfl, hB⟩
end Go.Proofs.YtcjjgfejamddjaaDoor.Rf
