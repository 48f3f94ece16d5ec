/-
  YEARS (for seats without year.Turns): year.Turns, year.At, walked.
-/
import Derived.Test.YtefcjccapekjdaaDoorYrT
namespace Go.Proofs.YtefcjccapekjdaaDoor.Yr
open Go.ChangeShapes Go.WideShapes Go.ChangeAt Go.RowKit
open Go.Proofs.YtefcjccapekjdaaDoor
open Go.Proofs.YtefcjccapekjdaaDoor.Wd
open Go.Proofs.YtefcjccapekjdaaDoor.Rec
open Go.Proofs.YtefcjccapekjdaaDoor.Civ (Tab Inv)
set_option linter.unusedVariables false
def atO (b c d : Int) (p q : St) (Y t : Int) : Int := if trE b c d p q Y = 0 then stO b c d (trA b c d p q Y) (trB b c d p q Y) t else 0
def atB (b c d : Int) (p q : St) (Y t : Int) : Bool := if trE b c d p q Y = 0 then sumB (trA b c d p q Y) (trB b c d p q Y) t else false
theorem results_se {fn : Func} {p q : Tmp} (h : fn.results = #[.cell p 43, .tmp q]) (tmps : Array Value) (w : World) (g : Nat) (t : TypeId) (cs : Array Value) (v : Value)
    (hp : tmps.getD p undef = .pointer (some ⟨g, 0, none⟩)) (hq : tmps.getD q undef = v) (hg : w.heap[g]? = some (.cells cs t (0, 0))) (hs : cs.size = 3) :
    (results fn tmps).run Tryd.prog w = .ok (.tuple #[.agg cs, v]) w := by
  have hp' : tmps[p]?.getD undef = .pointer (some ⟨g, 0, none⟩) := by simpa using hp
  have hq' : tmps[q]?.getD undef = v := by simpa using hq
  have hi : (Tryd.prog.info? 43).map (·.size) = some cs.size := by rw [hs]; kernel_rfl
  simp [results, h, hp', hq', asAddr, run_loadVar_row w g t 43 cs (0, 0) _ hg Tryd.underlying43 rfl hi]
set_option maxRecDepth 20000 in
set_option maxHeartbeats 3200000 in
theorem At_any (b c d : Int) (p q : St) (Y t : Int) (w : World) (hT : Tab w) (B : RBd b c d p q) :
    Calls Tryd.prog 38 #[rcV b c d p q, .int .i64 Y, .int .i64 t] w fun e w' => e = .returned (.tuple #[stateV (atO b c d p q Y t) (atB b c d p q Y t), .int .i64 (trE b c d p q Y)]) ∧ Below w.heap.size w w' := by
  have i0 := Civ.Inv.start hT
  have i1 := (i0.alloc (.cells (rcA b c d p q) 26)).alloc (.cells (stA0 0 false) 43)
  have x0 := (Blk.new w 26 (rcA b c d p q)).alloc (.cells (stA0 0 false) 43)
  have z0 := blk_at (w.alloc (.cells (rcA b c d p q) 26)) 43 (stA0 0 false) (sz1 _ _ rfl)
  have ht := turns_any b c d p q Y _ i1.1 B
  by_cases he : trE b c d p q Y = 0
  · have ho : atO b c d p q Y t = stO b c d (trA b c d p q Y) (trB b c d p q Y) t := by unfold atO; rw [if_pos he]
    have hb : atB b c d p q Y t = sumB (trA b c d p q Y) (trB b c d p q Y) t := by unfold atB; rw [if_pos he]
    rw [ho, hb, he]; rw [he] at ht; clear ho hb he
    generalize trA b c d p q Y = s1 at *
    generalize trB b c d p q Y = s2 at *
    have hst := fun w => state_any b c d p q s1 s2 t w B
    generalize stO b c d s1 s2 t = o at *
    generalize sumB s1 s2 t = sb at *
    go_enter Tryd.func38, Tryd.ntmps38
    go_wp2_with (refine wpList_row_g rfl 26 _ rfl _ rfl _ _ _ _ x0 Tryd.underlying26 rfl (by kernel_rfl) ?_)
    refine ht.mono ?_; rintro e w1 ⟨rfl, hb1⟩
    have x1 := (x0.below hb1 x0.lt).alloc (.cells #[.int .i64 s1, .int .i64 s2] 146)
    have z1 := (z0.below hb1 z0.lt).alloc (.cells #[.int .i64 s1, .int .i64 s2] 146)
    have y1 := Blk.new w1 146 #[.int .i64 s1, .int .i64 s2]
    have i2 := (i1.call hb1).alloc (.cells #[.int .i64 s1, .int .i64 s2] 146)
    clear ht x0 z0 i1 hb1
    go_wp2_with (first
      | refine wpList_row_g rfl 26 _ rfl _ rfl _ _ _ _ x1 Tryd.underlying26 rfl (by kernel_rfl) ?_
      | refine wpList_row_g rfl 146 _ rfl _ rfl _ _ _ _ y1 Tryd.underlying146 rfl (by kernel_rfl) ?_)
    refine (hst _).mono ?_; rintro e w2 ⟨rfl, hb2⟩
    have z2 := z1.below hb2 z1.lt
    have i3 := i2.call hb2
    clear x1 z1 y1 i2 hb2 hst
    go_wp2_with (refine wpList_store_g rfl 43 _ _ rfl rfl _ 0 (stA0 o sb) (stA0 o sb) rfl rfl _ _ z2 (by show 0 + 3 ≤ 3; decide) (by kernel_rfl) (by kernel_rfl) (by kernel_rfl) ?_)
    exact bodyPost_ret (results_se rfl _ _ _ _ _ _ rfl rfl (Blk.row z2 _) rfl) rfl ⟨rfl, below_row i3.2 (Nat.le_add_right _ 1) _⟩
  · have ho : atO b c d p q Y t = 0 := by unfold atO; rw [if_neg he]
    have hb : atB b c d p q Y t = false := by unfold atB; rw [if_neg he]
    have ha1 : trA b c d p q Y = 0 := by unfold trA; rw [if_neg he]
    have ha2 : trB b c d p q Y = 0 := by unfold trB; rw [if_neg he]
    have heb : (trE b c d p q Y != 0) = true := by simp [he]
    rw [ho, hb]; rw [ha1, ha2] at ht; clear ho hb ha1 ha2 he
    generalize trE b c d p q Y = ee at *
    go_enter Tryd.func38, Tryd.ntmps38
    go_wp2_with (refine wpList_row_g rfl 26 _ rfl _ rfl _ _ _ _ x0 Tryd.underlying26 rfl (by kernel_rfl) ?_)
    refine ht.mono ?_; rintro e w1 ⟨rfl, hb1⟩
    have z1 := (z0.below hb1 z0.lt).alloc (.cells #[.int .i64 0, .int .i64 0] 146)
    have i2 := (i1.call hb1).alloc (.cells #[.int .i64 0, .int .i64 0] 146)
    clear ht x0 z0 i1 hb1
    go_wp2_with (refine wpList_store_g rfl 43 _ _ rfl rfl _ 0 (stA0 0 false) (stA0 0 false) rfl rfl _ _ z1 (by show 0 + 3 ≤ 3; decide) (by kernel_rfl) (by kernel_rfl) (by kernel_rfl) ?_)
    exact bodyPost_ret (results_se rfl _ _ _ _ _ _ rfl rfl (Blk.row z1 _) rfl) rfl ⟨rfl, below_row i2.2 (Nat.le_add_right _ 1) _⟩
end Go.Proofs.YtefcjccapekjdaaDoor.Yr
