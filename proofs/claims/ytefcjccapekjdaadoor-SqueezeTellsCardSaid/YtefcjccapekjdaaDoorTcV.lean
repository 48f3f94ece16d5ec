/-
  TABLES: 'lives' of the statements of tables, walked.
-/
import Derived.Test.YtefcjccapekjdaaDoorTcS
import Derived.Test.YtefcjccapekjdaaDoorTcE
import Derived.Test.YtefcjccapekjdaaDoorFtE
namespace Go.Proofs.YtefcjccapekjdaaDoor.Tb
open Go.ChangeShapes Go.WideShapes Go.ChangeAt Go.RowKit
open Go.Proofs.YtefcjccapekjdaaDoor
open Go.Proofs.YtefcjccapekjdaaDoor.Wd
open Go.Proofs.YtefcjccapekjdaaDoor.Rec
open Go.Proofs.YtefcjccapekjdaaDoor.Yr
open Go.Proofs.YtefcjccapekjdaaDoor.Clk (yrV yrE)
open Go.Proofs.YtefcjccapekjdaaDoor.Civ (Tab Inv)
set_option linter.unusedVariables false
open Go.Proofs.YtefcjccapekjdaaDoor.Ft (Spans)
theorem two_rows (w : World) (t : TypeId) (a b z : Array Value) (h : a.size = z.size) (h2 : b.size = z.size) : ((((w.alloc (.cells z t)).alloc (.cells z t)).setRow w.heap.size a).setRow (w.heap.size + 1) b) = (w.alloc (.cells a t)).alloc (.cells b t) := by
  have e1 : ((w.alloc (.cells z t)).alloc (.cells z t)).setRow w.heap.size a = (w.alloc (.cells a t)).alloc (.cells z t) := by
    simp only [World.setRow, World.alloc]
    congr 1
    apply Array.ext
    · simp
    · intro i h1 h2
      simp only [Array.getElem_modify, Array.getElem_push, Array.size_push]
      split <;> split <;> simp_all <;> (rw [dif_pos (by omega), dif_pos (by omega)])
  rw [e1]
  have hs : w.heap.size + 1 = (w.alloc (.cells a t)).heap.size := (sz1 w _ rfl).symm
  rw [hs, row_new]

theorem spans_one {w : World} {g : Nat} {t : TypeId} {s : Sp} (x : Blk w g t s.A) : Spans w w.heap.size (some ⟨g, 0, none⟩) 1 [s] := by
  refine ⟨rfl, by rw [flatS_len]; rfl, fun _ => ⟨_, rfl, x.lt, fun j u hu => ?_⟩⟩
  have e : (⟨g, 0, none⟩ : Addr).add j = ⟨g, j, none⟩ := by unfold Addr.add; split <;> simp_all
  rw [e, x.cell]
  have h2 : s.A[j]? = (flatS [s])[j]? := by
    rw [← Array.getElem?_toList]
    show _ = (s.A.toList ++ [])[j]?
    rw [List.append_nil]
  rw [h2]; exact hu
abbrev rcZ : Rc := ⟨-60, 0, 0, St.nil, St.nil⟩
theorem rcZ_bd : rcZ.Bd := by
  refine ⟨by decide, by decide, by decide, ?_, ?_⟩ <;> exact ⟨by decide, by decide, by decide, by decide, by decide, by decide, by decide, by decide⟩
theorem recs_two {w : World} {g : Nat} {t : TypeId} {r q : Rc} (x : Blk w g t (r.A ++ q.A)) (B : r.Bd) (B2 : q.Bd) : Recs w w.heap.size (some ⟨g, 0, none⟩) 2 [r, q] := by
  refine ⟨rfl, ⟨by rw [flat_len]; rfl, fun _ => ⟨_, rfl, x.lt, fun j u hu => ?_⟩⟩, fun r' hr => by
    rcases List.mem_cons.1 hr with rfl | hr
    · exact B
    · rw [List.mem_singleton.1 hr]; exact B2⟩
  have e : (⟨g, 0, none⟩ : Addr).add j = ⟨g, j, none⟩ := by unfold Addr.add; split <;> simp_all
  rw [e, x.cell]
  have h2 : (r.A ++ q.A)[j]? = (flat [r, q])[j]? := by
    rw [← Array.getElem?_toList, Array.toList_append]
    show _ = (r.A.toList ++ (q.A.toList ++ []))[j]?
    rw [List.append_nil]
  rw [h2]; exact hu
theorem v_p1 {g B : Nat} {w : World} (hT : Tab w) (hR : Recs w B (some ⟨g, 0, none⟩) 2 [rcX, rcZ]) (hB : B ≤ w.heap.size) :
    Calls Tryd.prog 37 #[tbV 1999 2000 (some ⟨g, 0, none⟩) 2 2, .int .i64 1601] w fun e w' => e = .returned (.tuple #[rcX.V, .int .i64 0]) ∧ Below w.heap.size w w' := by
  have := pick_any 1999 2000 (some ⟨g, 0, none⟩) 2 2 B [rcX, rcZ] 1601 w hT hR hB (by decide)
  rwa [show pkR 1999 2000 [rcX, rcZ] 1601 = rcX from by first | rfl | kernel_rfl | (unfold pkR pkE; rfl), show pkE 1999 2000 [rcX, rcZ] 1601 = 0 by decide +kernel] at this
theorem v_p2 {g B : Nat} {w : World} (hT : Tab w) (hR : Recs w B (some ⟨g, 0, none⟩) 2 [rcX, rcZ]) (hB : B ≤ w.heap.size) :
    Calls Tryd.prog 37 #[tbV 1999 2000 (some ⟨g, 0, none⟩) 2 2, .int .i64 2024] w fun e w' => e = .returned (.tuple #[rcZ.V, .int .i64 0]) ∧ Below w.heap.size w w' := by
  have := pick_any 1999 2000 (some ⟨g, 0, none⟩) 2 2 B [rcX, rcZ] 2024 w hT hR hB (by decide)
  rwa [show pkR 1999 2000 [rcX, rcZ] 2024 = rcZ from by first | rfl | kernel_rfl | (unfold pkR pkE; rfl), show pkE 1999 2000 [rcX, rcZ] 2024 = 0 by decide +kernel] at this
theorem v_p3 {g B : Nat} {w : World} (hT : Tab w) (hR : Recs w B (some ⟨g, 0, none⟩) 2 [rcX, rcZ]) (hB : B ≤ w.heap.size) :
    Calls Tryd.prog 37 #[tbV 1999 2000 (some ⟨g, 0, none⟩) 2 2, .int .i64 1600] w fun e w' => e = .returned (.tuple #[Rc.nil.V, .int .i64 1]) ∧ Below w.heap.size w w' := by
  have := pick_any 1999 2000 (some ⟨g, 0, none⟩) 2 2 B [rcX, rcZ] 1600 w hT hR hB (by decide)
  rwa [show pkR 1999 2000 [rcX, rcZ] 1600 = Rc.nil from by first | rfl | kernel_rfl | (unfold pkR pkE; rfl), show pkE 1999 2000 [rcX, rcZ] 1600 = 1 by decide +kernel] at this
theorem v_a1 {g B : Nat} {w : World} (hT : Tab w) (hR : Recs w B (some ⟨g, 0, none⟩) 2 [rcX, rcZ]) (hB : B ≤ w.heap.size) :
    Calls Tryd.prog 41 #[tbV 1999 2000 (some ⟨g, 0, none⟩) 2 2, .int .i64 946684799] w fun e w' => e = .returned (.tuple #[stateV (-3600) false, .int .i64 0]) ∧ Below w.heap.size w w' := by
  have := tat_any 1999 2000 (some ⟨g, 0, none⟩) 2 2 B [rcX, rcZ] 946684799 w hT hR hB (by decide) (by decide)
  rwa [show tOff 1999 2000 [rcX, rcZ] 946684799 = -3600 by decide +kernel, show tSum 1999 2000 [rcX, rcZ] 946684799 = false by decide +kernel, show atE 1999 2000 [rcX, rcZ] 946684799 = 0 by decide +kernel] at this
theorem v_a2 {g B : Nat} {w : World} (hT : Tab w) (hR : Recs w B (some ⟨g, 0, none⟩) 2 [rcX, rcZ]) (hB : B ≤ w.heap.size) :
    Calls Tryd.prog 41 #[tbV 1999 2000 (some ⟨g, 0, none⟩) 2 2, .int .i64 946684800] w fun e w' => e = .returned (.tuple #[stateV (3600) false, .int .i64 0]) ∧ Below w.heap.size w w' := by
  have := tat_any 1999 2000 (some ⟨g, 0, none⟩) 2 2 B [rcX, rcZ] 946684800 w hT hR hB (by decide) (by decide)
  rwa [show tOff 1999 2000 [rcX, rcZ] 946684800 = 3600 by decide +kernel, show tSum 1999 2000 [rcX, rcZ] 946684800 = false by decide +kernel, show atE 1999 2000 [rcX, rcZ] 946684800 = 0 by decide +kernel] at this
theorem v_a3 {g B : Nat} {w : World} (hT : Tab w) (hR : Recs w B (some ⟨g, 0, none⟩) 2 [rcX, rcZ]) (hB : B ≤ w.heap.size) :
    Calls Tryd.prog 41 #[tbV 1999 2000 (some ⟨g, 0, none⟩) 2 2, .int .i64 1099511627776] w fun e w' => e = .returned (.tuple #[stateV (0) false, .int .i64 1]) ∧ Below w.heap.size w w' := by
  have := tat_any 1999 2000 (some ⟨g, 0, none⟩) 2 2 B [rcX, rcZ] 1099511627776 w hT hR hB (by decide) (by decide)
  rwa [show tOff 1999 2000 [rcX, rcZ] 1099511627776 = 0 by decide +kernel, show tSum 1999 2000 [rcX, rcZ] 1099511627776 = false by decide +kernel, show atE 1999 2000 [rcX, rcZ] 1099511627776 = 1 by decide +kernel] at this
theorem v_ck {g B : Nat} {w : World} (hT : Tab w) (hR : Recs w B (some ⟨g, 0, none⟩) 2 [rcX, rcZ]) (hB : B ≤ w.heap.size) :
    Calls Tryd.prog 45 #[tbV 1999 2000 (some ⟨g, 0, none⟩) 2 2] w fun e w' => e = .returned (.int .i64 0) ∧ Below w.heap.size w w' := by
  have := check_any 1999 2000 (some ⟨g, 0, none⟩) 2 2 B [rcX, rcZ] w hT hR hB (by decide)
  rwa [show tbE 1999 2000 [rcX, rcZ] = 0 by decide +kernel] at this
theorem v_c0 {w : World} (hT : Tab w) :
    Calls Tryd.prog 45 #[tbV 0 0 none 0 0] w fun e w' => e = .returned (.int .i64 2) ∧ Below w.heap.size w w' := by
  have := check_any 0 0 none 0 0 w.heap.size [] w hT ⟨rfl, Reads.none_, fun _ h => absurd h (List.not_mem_nil)⟩ (Nat.le_refl _) (by decide)
  rwa [show tbE 0 0 [] = 2 by decide +kernel] at this
theorem v_sp {g B : Nat} {w : World} (hT : Tab w) (hR : Recs w B (some ⟨g, 0, none⟩) 2 [rcX, rcZ]) (hB : B ≤ w.heap.size) :
    Calls Tryd.prog 43 #[tbV 1999 2000 (some ⟨g, 0, none⟩) 2 2, .int .i64 1999] w fun e w' => ∃ A' n' c', e = .returned (.tuple #[.slice A' n' c', .int .i64 0]) ∧ n' = 1 ∧ Spans w' w'.heap.size A' n' [⟨915148800, -3600, false⟩] ∧ Below w.heap.size w w' := by
  have := tspans_any 1999 2000 (some ⟨g, 0, none⟩) 2 2 B [rcX, rcZ] 1999 w hT hR hB (by decide)
  rw [show pkE 1999 2000 [rcX, rcZ] 1999 = 0 by decide +kernel, show tsL 1999 2000 [rcX, rcZ] 1999 = [⟨915148800, -3600, false⟩] by kernel_rfl] at this
  exact this.mono fun _ _ ⟨A, n, c, he, hs, _, _, _, hb⟩ => ⟨A, n, c, he, hs.1.symm, hs, hb⟩
theorem v_s1 {g : Nat} {w : World} (hR : Recs w w.heap.size (some ⟨g, 0, none⟩) 2 [rcX, rcZ]) :
    Calls Tryd.prog 48 #[tbV 1999 2000 (some ⟨g, 0, none⟩) 2 2, tbV 1999 2000 (some ⟨g, 0, none⟩) 2 2] w fun e w' => e = .returned (.bool true) ∧ Below w.heap.size w w' := by
  have := tsame_any 1999 2000 1999 2000 (some ⟨g, 0, none⟩) (some ⟨g, 0, none⟩) 2 2 2 2 [rcX, rcZ] [rcX, rcZ] w hR hR (by decide) (by decide)
  rwa [show sameB 1999 2000 [rcX, rcZ] 1999 2000 [rcX, rcZ] = true by decide +kernel] at this
theorem v_s2 {g : Nat} {w : World} (hR : Recs w w.heap.size (some ⟨g, 0, none⟩) 2 [rcX, rcZ]) :
    Calls Tryd.prog 48 #[tbV 1999 2000 (some ⟨g, 0, none⟩) 2 2, tbV 0 0 none 0 0] w fun e w' => e = .returned (.bool false) ∧ Below w.heap.size w w' := by
  have := tsame_any 1999 2000 0 0 (some ⟨g, 0, none⟩) none 2 0 2 0 [rcX, rcZ] [] w hR ⟨rfl, Reads.none_, fun _ h => absurd h (List.not_mem_nil)⟩ (by decide) (by decide)
  rwa [show sameB 1999 2000 [rcX, rcZ] 0 0 [] = false by decide +kernel] at this
theorem rcX_b2 : rcX.Bd := rcX_bd
set_option maxRecDepth 20000 in
set_option maxHeartbeats 8000000 in
attribute [-go_sem] run_eql_struct in
theorem lives23_any (w : World) (hT : Tab w) :
    Calls Tryd.prog 39 #[] w fun e w' => e = .returned (.bool true) ∧ Below w.heap.size w w' := by
  have i0 := Civ.Inv.start hT
  go_enter Tryd.func39, Tryd.ntmps39
  have xz := (Blk.new w 26 z19).alloc (.cells z19 26)
  have yz := Blk.rowFar (blk_at (w.alloc (.cells z19 26)) 26 z19 (sz1 w _ rfl)) (show w.heap.size + 1 ≠ w.heap.size by omega) rcX.A
  have tw := two_rows w 26 rcX.A rcZ.A z19 rfl rfl
  unfold z19 at xz yz tw
  go_upto_region 2 with (first | refine wpList_store_g rfl 26 _ _ rfl rfl _ 0 rcX.A rcX.A rfl rfl _ _ xz (by show 0 + 19 ≤ 19; decide) (by kernel_rfl) (by kernel_rfl) (by kernel_rfl) ?_ | (refine wpList_store_g rfl 26 _ _ rfl rfl _ 0 rcZ.A rcZ.A rfl rfl _ _ yz (by show 0 + 19 ≤ 19; decide) (by kernel_rfl) (by kernel_rfl) (by kernel_rfl) ?_; rw [tw]))
  clear xz yz tw
  have i2 := (i0.alloc (.cells rcX.A 26)).alloc (.cells rcZ.A 26)
  have x2 := (Blk.new w 26 rcX.A).alloc (.cells rcZ.A 26)
  have y2 := blk_at (w.alloc (.cells rcX.A 26)) 26 rcZ.A (sz1 w _ rfl)
  go_wp2_with (first | refine wpList_row_g rfl 26 _ rfl _ rfl _ _ _ _ x2 Tryd.underlying26 rfl (by kernel_rfl) ?_ | refine wpList_row_g rfl 26 _ rfl _ rfl _ _ _ _ y2 Tryd.underlying26 rfl (by kernel_rfl) ?_)
  have x4 := (x2.alloc (.cells #[.int .i32 60, .int .i32 0, .int .i32 0, .int .u16 St.nil.y, .int .u16 St.nil.m, .int .u16 St.nil.v, .int .u16 St.nil.d, .int .u16 St.nil.h, .int .u16 St.nil.i, .int .u16 St.nil.s, .int .u16 St.nil.u, .int .u16 St.nil.y, .int .u16 St.nil.m, .int .u16 St.nil.v, .int .u16 St.nil.d, .int .u16 St.nil.h, .int .u16 St.nil.i, .int .u16 St.nil.s, .int .u16 St.nil.u, .int .i32 (-60), .int .i32 0, .int .i32 0, .int .u16 St.nil.y, .int .u16 St.nil.m, .int .u16 St.nil.v, .int .u16 St.nil.d, .int .u16 St.nil.h, .int .u16 St.nil.i, .int .u16 St.nil.s, .int .u16 St.nil.u, .int .u16 St.nil.y, .int .u16 St.nil.m, .int .u16 St.nil.v, .int .u16 St.nil.d, .int .u16 St.nil.h, .int .u16 St.nil.i, .int .u16 St.nil.s, .int .u16 St.nil.u] 26)).alloc (.cells #[.int .i64 1999, .int .i64 2000, .slice (some ⟨w.heap.size + 1 + 1, 0, none⟩) 2 2] 40)
  have y4 := (y2.alloc (.cells #[.int .i32 60, .int .i32 0, .int .i32 0, .int .u16 St.nil.y, .int .u16 St.nil.m, .int .u16 St.nil.v, .int .u16 St.nil.d, .int .u16 St.nil.h, .int .u16 St.nil.i, .int .u16 St.nil.s, .int .u16 St.nil.u, .int .u16 St.nil.y, .int .u16 St.nil.m, .int .u16 St.nil.v, .int .u16 St.nil.d, .int .u16 St.nil.h, .int .u16 St.nil.i, .int .u16 St.nil.s, .int .u16 St.nil.u, .int .i32 (-60), .int .i32 0, .int .i32 0, .int .u16 St.nil.y, .int .u16 St.nil.m, .int .u16 St.nil.v, .int .u16 St.nil.d, .int .u16 St.nil.h, .int .u16 St.nil.i, .int .u16 St.nil.s, .int .u16 St.nil.u, .int .u16 St.nil.y, .int .u16 St.nil.m, .int .u16 St.nil.v, .int .u16 St.nil.d, .int .u16 St.nil.h, .int .u16 St.nil.i, .int .u16 St.nil.s, .int .u16 St.nil.u] 26)).alloc (.cells #[.int .i64 1999, .int .i64 2000, .slice (some ⟨w.heap.size + 1 + 1, 0, none⟩) 2 2] 40)
  have s4 : Blk ((((w.alloc (.cells rcX.A 26)).alloc (.cells rcZ.A 26)).alloc (.cells #[.int .i32 60, .int .i32 0, .int .i32 0, .int .u16 St.nil.y, .int .u16 St.nil.m, .int .u16 St.nil.v, .int .u16 St.nil.d, .int .u16 St.nil.h, .int .u16 St.nil.i, .int .u16 St.nil.s, .int .u16 St.nil.u, .int .u16 St.nil.y, .int .u16 St.nil.m, .int .u16 St.nil.v, .int .u16 St.nil.d, .int .u16 St.nil.h, .int .u16 St.nil.i, .int .u16 St.nil.s, .int .u16 St.nil.u, .int .i32 (-60), .int .i32 0, .int .i32 0, .int .u16 St.nil.y, .int .u16 St.nil.m, .int .u16 St.nil.v, .int .u16 St.nil.d, .int .u16 St.nil.h, .int .u16 St.nil.i, .int .u16 St.nil.s, .int .u16 St.nil.u, .int .u16 St.nil.y, .int .u16 St.nil.m, .int .u16 St.nil.v, .int .u16 St.nil.d, .int .u16 St.nil.h, .int .u16 St.nil.i, .int .u16 St.nil.s, .int .u16 St.nil.u] 26)).alloc (.cells #[.int .i64 1999, .int .i64 2000, .slice (some ⟨w.heap.size + 1 + 1, 0, none⟩) 2 2] 40)) (w.heap.size + 1 + 1) 26 (rcX.A ++ rcZ.A) := (blk_at ((w.alloc (.cells rcX.A 26)).alloc (.cells rcZ.A 26)) 26 #[.int .i32 60, .int .i32 0, .int .i32 0, .int .u16 St.nil.y, .int .u16 St.nil.m, .int .u16 St.nil.v, .int .u16 St.nil.d, .int .u16 St.nil.h, .int .u16 St.nil.i, .int .u16 St.nil.s, .int .u16 St.nil.u, .int .u16 St.nil.y, .int .u16 St.nil.m, .int .u16 St.nil.v, .int .u16 St.nil.d, .int .u16 St.nil.h, .int .u16 St.nil.i, .int .u16 St.nil.s, .int .u16 St.nil.u, .int .i32 (-60), .int .i32 0, .int .i32 0, .int .u16 St.nil.y, .int .u16 St.nil.m, .int .u16 St.nil.v, .int .u16 St.nil.d, .int .u16 St.nil.h, .int .u16 St.nil.i, .int .u16 St.nil.s, .int .u16 St.nil.u, .int .u16 St.nil.y, .int .u16 St.nil.m, .int .u16 St.nil.v, .int .u16 St.nil.d, .int .u16 St.nil.h, .int .u16 St.nil.i, .int .u16 St.nil.s, .int .u16 St.nil.u] (sz1 _ _ (sz1 w _ rfl))).alloc (.cells #[.int .i64 1999, .int .i64 2000, .slice (some ⟨w.heap.size + 1 + 1, 0, none⟩) 2 2] 40)
  have t4 := blk_at (((w.alloc (.cells rcX.A 26)).alloc (.cells rcZ.A 26)).alloc (.cells #[.int .i32 60, .int .i32 0, .int .i32 0, .int .u16 St.nil.y, .int .u16 St.nil.m, .int .u16 St.nil.v, .int .u16 St.nil.d, .int .u16 St.nil.h, .int .u16 St.nil.i, .int .u16 St.nil.s, .int .u16 St.nil.u, .int .u16 St.nil.y, .int .u16 St.nil.m, .int .u16 St.nil.v, .int .u16 St.nil.d, .int .u16 St.nil.h, .int .u16 St.nil.i, .int .u16 St.nil.s, .int .u16 St.nil.u, .int .i32 (-60), .int .i32 0, .int .i32 0, .int .u16 St.nil.y, .int .u16 St.nil.m, .int .u16 St.nil.v, .int .u16 St.nil.d, .int .u16 St.nil.h, .int .u16 St.nil.i, .int .u16 St.nil.s, .int .u16 St.nil.u, .int .u16 St.nil.y, .int .u16 St.nil.m, .int .u16 St.nil.v, .int .u16 St.nil.d, .int .u16 St.nil.h, .int .u16 St.nil.i, .int .u16 St.nil.s, .int .u16 St.nil.u] 26)) 40 #[.int .i64 1999, .int .i64 2000, .slice (some ⟨w.heap.size + 1 + 1, 0, none⟩) 2 2] (sz1 _ _ (sz1 _ _ (sz1 w _ rfl)))
  have i4 := (i2.alloc (.cells #[.int .i32 60, .int .i32 0, .int .i32 0, .int .u16 St.nil.y, .int .u16 St.nil.m, .int .u16 St.nil.v, .int .u16 St.nil.d, .int .u16 St.nil.h, .int .u16 St.nil.i, .int .u16 St.nil.s, .int .u16 St.nil.u, .int .u16 St.nil.y, .int .u16 St.nil.m, .int .u16 St.nil.v, .int .u16 St.nil.d, .int .u16 St.nil.h, .int .u16 St.nil.i, .int .u16 St.nil.s, .int .u16 St.nil.u, .int .i32 (-60), .int .i32 0, .int .i32 0, .int .u16 St.nil.y, .int .u16 St.nil.m, .int .u16 St.nil.v, .int .u16 St.nil.d, .int .u16 St.nil.h, .int .u16 St.nil.i, .int .u16 St.nil.s, .int .u16 St.nil.u, .int .u16 St.nil.y, .int .u16 St.nil.m, .int .u16 St.nil.v, .int .u16 St.nil.d, .int .u16 St.nil.h, .int .u16 St.nil.i, .int .u16 St.nil.s, .int .u16 St.nil.u] 26)).alloc (.cells #[.int .i64 1999, .int .i64 2000, .slice (some ⟨w.heap.size + 1 + 1, 0, none⟩) 2 2] 40)
  have hR := recs_two s4 rcX_bd rcZ_bd
  clear i0 i2 x2 y2 s4
  have hbW := i4.2
  have j0 := Civ.Inv.start i4.1
  clear i4
  generalize ((((w.alloc (.cells rcX.A 26)).alloc (.cells rcZ.A 26)).alloc (.cells #[.int .i32 60, .int .i32 0, .int .i32 0, .int .u16 St.nil.y, .int .u16 St.nil.m, .int .u16 St.nil.v, .int .u16 St.nil.d, .int .u16 St.nil.h, .int .u16 St.nil.i, .int .u16 St.nil.s, .int .u16 St.nil.u, .int .u16 St.nil.y, .int .u16 St.nil.m, .int .u16 St.nil.v, .int .u16 St.nil.d, .int .u16 St.nil.h, .int .u16 St.nil.i, .int .u16 St.nil.s, .int .u16 St.nil.u, .int .i32 (-60), .int .i32 0, .int .i32 0, .int .u16 St.nil.y, .int .u16 St.nil.m, .int .u16 St.nil.v, .int .u16 St.nil.d, .int .u16 St.nil.h, .int .u16 St.nil.i, .int .u16 St.nil.s, .int .u16 St.nil.u, .int .u16 St.nil.y, .int .u16 St.nil.m, .int .u16 St.nil.v, .int .u16 St.nil.d, .int .u16 St.nil.h, .int .u16 St.nil.i, .int .u16 St.nil.s, .int .u16 St.nil.u] 26)).alloc (.cells #[.int .i64 1999, .int .i64 2000, .slice (some ⟨w.heap.size + 1 + 1, 0, none⟩) 2 2] 40)) = WW at *
  have t4 : Blk WW (w.heap.size + 1 + 1 + 1) 40 (tbA 1999 2000 (some ⟨w.heap.size + 1 + 1, 0, none⟩) 2 2) := t4
  have x_1 := x4
  have y_1 := y4
  have t_1 := t4
  have inv_1 := j0
  refine (v_p1 inv_1.1 (hR.below inv_1.2) inv_1.2.size).mono ?_; rintro e w_1 ⟨rfl, hb_1⟩
  have xc_1 := x_1.below hb_1 x_1.lt
  have yc_1 := y_1.below hb_1 y_1.lt
  have tc_1 := t_1.below hb_1 t_1.lt
  have invc_1 := inv_1.call hb_1
  clear x_1 y_1 t_1 inv_1 hb_1
  have x_2 := (xc_1.alloc (.cells rcX.A 26))
  have y_2 := (yc_1.alloc (.cells rcX.A 26))
  have t_2 := (tc_1.alloc (.cells rcX.A 26))
  have a_2 := (Wd.Blk.new w_1 26 rcX.A)
  have inv_2 := (invc_1.alloc (.cells rcX.A 26))
  go_wp2_with (first | refine wpList_store_new rfl 26 _ _ rfl rfl w_1.heap.size rcX.A rfl rfl _ #[.int .i32 0, .int .i32 0, .int .i32 0, .int .u16 0, .int .u16 0, .int .u16 0, .int .u16 0, .int .u16 0, .int .u16 0, .int .u16 0, .int .u16 0, .int .u16 0, .int .u16 0, .int .u16 0, .int .u16 0, .int .u16 0, .int .u16 0, .int .u16 0, .int .u16 0] w_1 rfl rfl rfl (by kernel_rfl) (by kernel_rfl) ?_ | refine wpList_row_g rfl 40 _ rfl _ rfl _ _ _ _ t_2 Tryd.underlying40 rfl (by kernel_rfl) ?_)
  have x_3 := x_2
  have y_3 := y_2
  have t_3 := t_2
  have a_3 := a_2
  have inv_3 := inv_2
  refine (v_p2 inv_3.1 (hR.below inv_3.2) inv_3.2.size).mono ?_; rintro e w_3 ⟨rfl, hb_3⟩
  have xc_3 := x_3.below hb_3 x_3.lt
  have yc_3 := y_3.below hb_3 y_3.lt
  have tc_3 := t_3.below hb_3 t_3.lt
  have ac_3 := a_3.below hb_3 a_3.lt
  have invc_3 := inv_3.call hb_3
  clear x_3 y_3 t_3 a_3 inv_3 hb_3
  have x_4 := (xc_3.alloc (.cells rcZ.A 26))
  have y_4 := (yc_3.alloc (.cells rcZ.A 26))
  have t_4 := (tc_3.alloc (.cells rcZ.A 26))
  have a_4 := (ac_3.alloc (.cells rcZ.A 26))
  have b_4 := (Wd.Blk.new w_3 26 rcZ.A)
  have inv_4 := (invc_3.alloc (.cells rcZ.A 26))
  go_wp2_with (first | refine wpList_store_new rfl 26 _ _ rfl rfl w_3.heap.size rcZ.A rfl rfl _ #[.int .i32 0, .int .i32 0, .int .i32 0, .int .u16 0, .int .u16 0, .int .u16 0, .int .u16 0, .int .u16 0, .int .u16 0, .int .u16 0, .int .u16 0, .int .u16 0, .int .u16 0, .int .u16 0, .int .u16 0, .int .u16 0, .int .u16 0, .int .u16 0, .int .u16 0] w_3 rfl rfl rfl (by kernel_rfl) (by kernel_rfl) ?_ | refine wpList_row_g rfl 40 _ rfl _ rfl _ _ _ _ t_4 Tryd.underlying40 rfl (by kernel_rfl) ?_)
  have x_5 := x_4
  have y_5 := y_4
  have t_5 := t_4
  have a_5 := a_4
  have b_5 := b_4
  have inv_5 := inv_4
  refine (v_p3 inv_5.1 (hR.below inv_5.2) inv_5.2.size).mono ?_; rintro e w_5 ⟨rfl, hb_5⟩
  have xc_5 := x_5.below hb_5 x_5.lt
  have yc_5 := y_5.below hb_5 y_5.lt
  have tc_5 := t_5.below hb_5 t_5.lt
  have ac_5 := a_5.below hb_5 a_5.lt
  have bc_5 := b_5.below hb_5 b_5.lt
  have invc_5 := inv_5.call hb_5
  clear x_5 y_5 t_5 a_5 b_5 inv_5 hb_5
  have x_6 := (xc_5.alloc (.cells Rc.nil.A 26))
  have y_6 := (yc_5.alloc (.cells Rc.nil.A 26))
  have t_6 := (tc_5.alloc (.cells Rc.nil.A 26))
  have a_6 := (ac_5.alloc (.cells Rc.nil.A 26))
  have b_6 := (bc_5.alloc (.cells Rc.nil.A 26))
  have inv_6 := (invc_5.alloc (.cells Rc.nil.A 26))
  go_wp2_with (first | refine wpList_store_new rfl 26 _ _ rfl rfl w_5.heap.size Rc.nil.A rfl rfl _ #[.int .i32 0, .int .i32 0, .int .i32 0, .int .u16 0, .int .u16 0, .int .u16 0, .int .u16 0, .int .u16 0, .int .u16 0, .int .u16 0, .int .u16 0, .int .u16 0, .int .u16 0, .int .u16 0, .int .u16 0, .int .u16 0, .int .u16 0, .int .u16 0, .int .u16 0] w_5 rfl rfl rfl (by kernel_rfl) (by kernel_rfl) ?_ | refine wpList_row_g rfl 40 _ rfl _ rfl _ _ _ _ t_6 Tryd.underlying40 rfl (by kernel_rfl) ?_)
  have x_7 := x_6
  have y_7 := y_6
  have t_7 := t_6
  have a_7 := a_6
  have b_7 := b_6
  have inv_7 := inv_6
  refine (v_a1 inv_7.1 (hR.below inv_7.2) inv_7.2.size).mono ?_; rintro e w_7 ⟨rfl, hb_7⟩
  have xc_7 := x_7.below hb_7 x_7.lt
  have yc_7 := y_7.below hb_7 y_7.lt
  have tc_7 := t_7.below hb_7 t_7.lt
  have ac_7 := a_7.below hb_7 a_7.lt
  have bc_7 := b_7.below hb_7 b_7.lt
  have invc_7 := inv_7.call hb_7
  clear x_7 y_7 t_7 a_7 b_7 inv_7 hb_7
  have x_8 := (xc_7.alloc (.cells (stA0 (-3600) false) 43))
  have y_8 := (yc_7.alloc (.cells (stA0 (-3600) false) 43))
  have t_8 := (tc_7.alloc (.cells (stA0 (-3600) false) 43))
  have a_8 := (ac_7.alloc (.cells (stA0 (-3600) false) 43))
  have b_8 := (bc_7.alloc (.cells (stA0 (-3600) false) 43))
  have c_8 := (Wd.Blk.new w_7 43 (stA0 (-3600) false))
  have inv_8 := (invc_7.alloc (.cells (stA0 (-3600) false) 43))
  go_wp2_with (first | refine wpList_store_new rfl 43 _ _ rfl rfl w_7.heap.size (stA0 (-3600) false) rfl rfl _ (stA0 0 false) w_7 rfl rfl rfl (by kernel_rfl) (by kernel_rfl) ?_ | refine wpList_row_g rfl 40 _ rfl _ rfl _ _ _ _ t_8 Tryd.underlying40 rfl (by kernel_rfl) ?_)
  have x_9 := x_8
  have y_9 := y_8
  have t_9 := t_8
  have a_9 := a_8
  have b_9 := b_8
  have c_9 := c_8
  have inv_9 := inv_8
  refine (v_a2 inv_9.1 (hR.below inv_9.2) inv_9.2.size).mono ?_; rintro e w_9 ⟨rfl, hb_9⟩
  have xc_9 := x_9.below hb_9 x_9.lt
  have yc_9 := y_9.below hb_9 y_9.lt
  have tc_9 := t_9.below hb_9 t_9.lt
  have ac_9 := a_9.below hb_9 a_9.lt
  have bc_9 := b_9.below hb_9 b_9.lt
  have cc_9 := c_9.below hb_9 c_9.lt
  have invc_9 := inv_9.call hb_9
  clear x_9 y_9 t_9 a_9 b_9 c_9 inv_9 hb_9
  have x_10 := (xc_9.alloc (.cells (stA0 3600 false) 43))
  have y_10 := (yc_9.alloc (.cells (stA0 3600 false) 43))
  have t_10 := (tc_9.alloc (.cells (stA0 3600 false) 43))
  have a_10 := (ac_9.alloc (.cells (stA0 3600 false) 43))
  have b_10 := (bc_9.alloc (.cells (stA0 3600 false) 43))
  have c_10 := (cc_9.alloc (.cells (stA0 3600 false) 43))
  have d_10 := (Wd.Blk.new w_9 43 (stA0 3600 false))
  have inv_10 := (invc_9.alloc (.cells (stA0 3600 false) 43))
  go_wp2_with (first | refine wpList_store_new rfl 43 _ _ rfl rfl w_9.heap.size (stA0 3600 false) rfl rfl _ (stA0 0 false) w_9 rfl rfl rfl (by kernel_rfl) (by kernel_rfl) ?_ | refine wpList_row_g rfl 40 _ rfl _ rfl _ _ _ _ t_10 Tryd.underlying40 rfl (by kernel_rfl) ?_)
  have x_11 := x_10
  have y_11 := y_10
  have t_11 := t_10
  have a_11 := a_10
  have b_11 := b_10
  have c_11 := c_10
  have d_11 := d_10
  have inv_11 := inv_10
  refine (v_sp inv_11.1 (hR.below inv_11.2) inv_11.2.size).mono ?_; rintro e w_11 ⟨A1, n1, c1, rfl, rfl, hS, hb_11⟩
  have xc_11 := x_11.below hb_11 x_11.lt; clear x_11
  have yc_11 := y_11.below hb_11 y_11.lt; clear y_11
  have tc_11 := t_11.below hb_11 t_11.lt; clear t_11
  have ac_11 := a_11.below hb_11 a_11.lt; clear a_11
  have bc_11 := b_11.below hb_11 b_11.lt; clear b_11
  have cc_11 := c_11.below hb_11 c_11.lt; clear c_11
  have dc_11 := d_11.below hb_11 d_11.lt; clear d_11
  have invc_11 := inv_11.call hb_11; clear inv_11 hb_11
  go_wp2_with (first | refine wpList_row_g rfl 40 _ rfl _ rfl _ _ _ _ tc_11 Tryd.underlying40 rfl (by kernel_rfl) ?_)
  have x_12 := xc_11
  have y_12 := yc_11
  have t_12 := tc_11
  have a_12 := ac_11
  have b_12 := bc_11
  have c_12 := cc_11
  have d_12 := dc_11
  have inv_12 := invc_11
  refine (v_a3 inv_12.1 (hR.below inv_12.2) inv_12.2.size).mono ?_; rintro e w_12 ⟨rfl, hb_12⟩
  have xc_12 := x_12.below hb_12 x_12.lt; clear x_12
  have yc_12 := y_12.below hb_12 y_12.lt; clear y_12
  have tc_12 := t_12.below hb_12 t_12.lt; clear t_12
  have ac_12 := a_12.below hb_12 a_12.lt; clear a_12
  have bc_12 := b_12.below hb_12 b_12.lt; clear b_12
  have cc_12 := c_12.below hb_12 c_12.lt; clear c_12
  have dc_12 := d_12.below hb_12 d_12.lt; clear d_12
  have hSS := (hS.below hb_12).more hb_12.size; clear hS
  have invc_12 := inv_12.call hb_12; clear inv_12 hb_12
  have x_13 := (xc_12.alloc (.cells (stA0 0 false) 43))
  have y_13 := (yc_12.alloc (.cells (stA0 0 false) 43))
  have t_13 := (tc_12.alloc (.cells (stA0 0 false) 43))
  have a_13 := (ac_12.alloc (.cells (stA0 0 false) 43))
  have b_13 := (bc_12.alloc (.cells (stA0 0 false) 43))
  have c_13 := (cc_12.alloc (.cells (stA0 0 false) 43))
  have d_13 := (dc_12.alloc (.cells (stA0 0 false) 43))
  have inv_13 := (invc_12.alloc (.cells (stA0 0 false) 43))
  have hq1 : ∀ w, (binOp .eql 26 (.agg rcX.A) (.agg rcX.A)).run Tryd.prog w = .ok (.bool true) w := fun w => (eq_rc 60 0 0 60 0 0 St.nil St.nil St.nil St.nil w).trans (by rw [show eqR 60 0 0 St.nil St.nil 60 0 0 St.nil St.nil = true by decide])
  have hq2 : ∀ w, (binOp .eql 26 (.agg rcZ.A) (.agg rcZ.A)).run Tryd.prog w = .ok (.bool true) w := fun w => (eq_rc (-60) 0 0 (-60) 0 0 St.nil St.nil St.nil St.nil w).trans (by rw [show eqR (-60) 0 0 St.nil St.nil (-60) 0 0 St.nil St.nil = true by decide])
  have hs1 : ∀ w, (binOp .eql 43 (.agg (stA0 (-3600) false)) (.agg (stA0 (-3600) false))).run Tryd.prog w = .ok (.bool true) w := fun w => (eq_sta (-3600) (-3600) false false w).trans (by rw [show eqT (-3600) false (-3600) false = true by decide])
  have hs2 : ∀ w, (binOp .eql 43 (.agg (stA0 3600 false)) (.agg (stA0 3600 false))).run Tryd.prog w = .ok (.bool true) w := fun w => (eq_sta 3600 3600 false false w).trans (by rw [show eqT 3600 false 3600 false = true by decide])
  go_upto_region 10 with (first | refine wpList_store_new rfl 43 _ _ rfl rfl w_12.heap.size (stA0 0 false) rfl rfl _ (stA0 0 false) w_12 rfl rfl rfl (by kernel_rfl) (by kernel_rfl) ?_)
  simp only [List.append] at *
  go_wp2_with (first | refine wpList_row_g rfl 26 _ rfl _ rfl _ _ _ _ a_13 Tryd.underlying26 rfl (by kernel_rfl) ?_ | refine wpList_row_g rfl 26 _ rfl _ rfl _ _ _ _ x_13 Tryd.underlying26 rfl (by kernel_rfl) ?_ | refine wpList_row_g rfl 26 _ rfl _ rfl _ _ _ _ b_13 Tryd.underlying26 rfl (by kernel_rfl) ?_ | refine wpList_row_g rfl 26 _ rfl _ rfl _ _ _ _ y_13 Tryd.underlying26 rfl (by kernel_rfl) ?_ | refine wpList_row_g rfl 43 _ rfl _ rfl _ _ _ _ c_13 Tryd.underlying43 rfl (by kernel_rfl) ?_ | refine wpList_row_g rfl 43 _ rfl _ rfl _ _ _ _ d_13 Tryd.underlying43 rfl (by kernel_rfl) ?_ | refine wpList_row_g rfl 40 _ rfl _ rfl _ _ _ _ t_13 Tryd.underlying40 rfl (by kernel_rfl) ?_)
  have hS4 := hSS.below ((Below.refl w_12.heap.size w_12).alloc (Nat.le_refl _) (.cells (stA0 0 false) 43))
  have hS5 := hS4.below ((Below.refl w_12.heap.size (w_12.alloc (.cells (stA0 0 false) 43))).alloc (Nat.le_of_lt (by simp)) (.cells #[.int .i64 915148800, .int .i64 (-3600), .bool false] 67))
  have x_14 := (x_13.alloc (.cells #[.int .i64 915148800, .int .i64 (-3600), .bool false] 67))
  have y_14 := (y_13.alloc (.cells #[.int .i64 915148800, .int .i64 (-3600), .bool false] 67))
  have t_14 := (t_13.alloc (.cells #[.int .i64 915148800, .int .i64 (-3600), .bool false] 67))
  have a_14 := (a_13.alloc (.cells #[.int .i64 915148800, .int .i64 (-3600), .bool false] 67))
  have b_14 := (b_13.alloc (.cells #[.int .i64 915148800, .int .i64 (-3600), .bool false] 67))
  have c_14 := (c_13.alloc (.cells #[.int .i64 915148800, .int .i64 (-3600), .bool false] 67))
  have d_14 := (d_13.alloc (.cells #[.int .i64 915148800, .int .i64 (-3600), .bool false] 67))
  have z_14 := (blk_at (w_12.alloc (.cells (stA0 0 false) 43)) 67 #[.int .i64 915148800, .int .i64 (-3600), .bool false] (sz1 _ _ rfl))
  have inv_14 := (inv_13.alloc (.cells #[.int .i64 915148800, .int .i64 (-3600), .bool false] 67))
  have hz2 := spans_one (s := ⟨915148800, -3600, false⟩) z_14
  have hS6 := hS5.more (show w_12.heap.size ≤ ((w_12.alloc (.cells (stA0 0 false) 43)).alloc (.cells #[.int .i64 915148800, .int .i64 (-3600), .bool false] 67)).heap.size from by simp; omega)
  have x_15 := x_14
  have y_15 := y_14
  have t_15 := t_14
  have a_15 := a_14
  have b_15 := b_14
  have c_15 := c_14
  have d_15 := d_14
  have z_15 := z_14
  have inv_15 := inv_14
  refine (Ft.same_eq _ _ 1 _ _ _ _ hS6 hz2 (by decide)).mono ?_; rintro e w_15 ⟨rfl, hb_15⟩
  have xc_15 := x_15.below hb_15 x_15.lt
  have yc_15 := y_15.below hb_15 y_15.lt
  have tc_15 := t_15.below hb_15 t_15.lt
  have ac_15 := a_15.below hb_15 a_15.lt
  have bc_15 := b_15.below hb_15 b_15.lt
  have cc_15 := c_15.below hb_15 c_15.lt
  have dc_15 := d_15.below hb_15 d_15.lt
  have zc_15 := z_15.below hb_15 z_15.lt
  have invc_15 := inv_15.call hb_15
  clear x_15 y_15 t_15 a_15 b_15 c_15 d_15 z_15 inv_15 hb_15
  clear hS4 hS5 hS6 hz2 hSS hq1 hq2 hs1 hs2
  go_wp2_with (first | refine wpList_row_g rfl 40 _ rfl _ rfl _ _ _ _ tc_15 Tryd.underlying40 rfl (by kernel_rfl) ?_)
  have x_16 := xc_15
  have y_16 := yc_15
  have t_16 := tc_15
  have a_16 := ac_15
  have b_16 := bc_15
  have c_16 := cc_15
  have d_16 := dc_15
  have z_16 := zc_15
  have inv_16 := invc_15
  refine (v_ck inv_16.1 (hR.below inv_16.2) inv_16.2.size).mono ?_; rintro e w_16 ⟨rfl, hb_16⟩
  have xc_16 := x_16.below hb_16 x_16.lt
  have yc_16 := y_16.below hb_16 y_16.lt
  have tc_16 := t_16.below hb_16 t_16.lt
  have ac_16 := a_16.below hb_16 a_16.lt
  have bc_16 := b_16.below hb_16 b_16.lt
  have cc_16 := c_16.below hb_16 c_16.lt
  have dc_16 := d_16.below hb_16 d_16.lt
  have zc_16 := z_16.below hb_16 z_16.lt
  have invc_16 := inv_16.call hb_16
  clear x_16 y_16 t_16 a_16 b_16 c_16 d_16 z_16 inv_16 hb_16
  go_wp2_with fail
  have x_17 := xc_16
  have y_17 := yc_16
  have t_17 := tc_16
  have a_17 := ac_16
  have b_17 := bc_16
  have c_17 := cc_16
  have d_17 := dc_16
  have z_17 := zc_16
  have inv_17 := invc_16
  refine (v_c0 inv_17.1).mono ?_; rintro e w_17 ⟨rfl, hb_17⟩
  have xc_17 := x_17.below hb_17 x_17.lt
  have yc_17 := y_17.below hb_17 y_17.lt
  have tc_17 := t_17.below hb_17 t_17.lt
  have ac_17 := a_17.below hb_17 a_17.lt
  have bc_17 := b_17.below hb_17 b_17.lt
  have cc_17 := c_17.below hb_17 c_17.lt
  have dc_17 := d_17.below hb_17 d_17.lt
  have zc_17 := z_17.below hb_17 z_17.lt
  have invc_17 := inv_17.call hb_17
  clear x_17 y_17 t_17 a_17 b_17 c_17 d_17 z_17 inv_17 hb_17
  go_wp2_with (first | refine wpList_row_g rfl 40 _ rfl _ rfl _ _ _ _ tc_17 Tryd.underlying40 rfl (by kernel_rfl) ?_)
  have x_18 := xc_17
  have y_18 := yc_17
  have t_18 := tc_17
  have a_18 := ac_17
  have b_18 := bc_17
  have c_18 := cc_17
  have d_18 := dc_17
  have z_18 := zc_17
  have inv_18 := invc_17
  refine (v_s1 ((hR.below inv_18.2).more inv_18.2.size)).mono ?_; rintro e w_18 ⟨rfl, hb_18⟩
  have xc_18 := x_18.below hb_18 x_18.lt
  have yc_18 := y_18.below hb_18 y_18.lt
  have tc_18 := t_18.below hb_18 t_18.lt
  have ac_18 := a_18.below hb_18 a_18.lt
  have bc_18 := b_18.below hb_18 b_18.lt
  have cc_18 := c_18.below hb_18 c_18.lt
  have dc_18 := d_18.below hb_18 d_18.lt
  have zc_18 := z_18.below hb_18 z_18.lt
  have invc_18 := inv_18.call hb_18
  clear x_18 y_18 t_18 a_18 b_18 c_18 d_18 z_18 inv_18 hb_18
  go_wp2_with (first | refine wpList_row_g rfl 40 _ rfl _ rfl _ _ _ _ tc_18 Tryd.underlying40 rfl (by kernel_rfl) ?_)
  have x_19 := xc_18
  have y_19 := yc_18
  have t_19 := tc_18
  have a_19 := ac_18
  have b_19 := bc_18
  have c_19 := cc_18
  have d_19 := dc_18
  have z_19 := zc_18
  have inv_19 := invc_18
  refine (v_s2 ((hR.below inv_19.2).more inv_19.2.size)).mono ?_; rintro e w_19 ⟨rfl, hb_19⟩
  have xc_19 := x_19.below hb_19 x_19.lt
  have yc_19 := y_19.below hb_19 y_19.lt
  have tc_19 := t_19.below hb_19 t_19.lt
  have ac_19 := a_19.below hb_19 a_19.lt
  have bc_19 := b_19.below hb_19 b_19.lt
  have cc_19 := c_19.below hb_19 c_19.lt
  have dc_19 := d_19.below hb_19 d_19.lt
  have zc_19 := z_19.below hb_19 z_19.lt
  have invc_19 := inv_19.call hb_19
  clear x_19 y_19 t_19 a_19 b_19 c_19 d_19 z_19 inv_19 hb_19
  go_wp2_with fail
  go_ret
  exact ⟨rfl, hbW.trans (invc_19.2.mono hbW.size)⟩
end Go.Proofs.YtefcjccapekjdaaDoor.Tb
