/-
  'lives' of the statements of footers, walked.
-/
import Derived.Test.YtgdgkgeoigljcaaDoorFoA
import Derived.Test.YtgdgkgeoigljcaaDoorFoB
namespace Go.Proofs.YtgdgkgeoigljcaaDoor.Fo
open Go.ChangeShapes Go.WideShapes Go.ChangeAt Go.RowKit Go.Shelf
open Go.Proofs.YtgdgkgeoigljcaaDoor
open Go.Proofs.YtgdgkgeoigljcaaDoor.Wd
open Go.Proofs.YtgdgkgeoigljcaaDoor.Rec
open Go.Proofs.YtgdgkgeoigljcaaDoor.Tb (Rc)
open Go.Proofs.YtgdgkgeoigljcaaDoor.Civ (Tab)
set_option linter.unusedVariables false
set_option linter.unusedSimpArgs false
theorem txt_at {r : Rc} {a b T : ByteArray} {w : World} (hT : Tab w) (hQ : Lib.TabIs Tryd.prog w "internal/strconv.uint64pow10" .u64 Lib.pow10Tab) {cs : Array Value} (hc : r.V = .agg cs) (ha : a.size ≤ 1000) (hb : b.size ≤ 1000) (hB : r.Bd) (hE : foE r (L a) (L b) = 0) (e : B (foT r (L a) (L b)) = T) :
    Calls Tryd.prog 6 #[.agg cs, .string a, .string b] w fun e w' => e = .returned (.tuple #[.string T, .int .i64 0]) ∧ Below w.heap.size w w' := by
  have := ftext_ok r a b w hT hQ hB ha hb hE
  rwa [e, hc] at this
theorem txt_no {r : Rc} {a b : ByteArray} {E : Int} {w : World} (hT : Tab w) (ha : a.size ≤ 1000) (hb : b.size ≤ 1000) (hB : r.Bd) (hE : foE r (L a) (L b) = E) (h0 : E ≠ 0) :
    Calls Tryd.prog 6 #[r.V, .string a, .string b] w fun e w' => e = .returned (.tuple #[.string ⟨#[]⟩, .int .i64 E]) ∧ Below w.heap.size w w' := by
  have := ftext_no r a b w hT hB ha hb (by rw [hE]; exact h0)
  rwa [hE] at this
theorem par_at {r : Rc} {a b T : ByteArray} {w : World} (hT : Tab w) (hQ : Lib.TabIs Tryd.prog w "internal/strconv.uint64pow10" .u64 Lib.pow10Tab) (hs : T.size ≤ 1000) {x : Array Value} (hx : (nrm r).V = .agg x) (hB : r.Bd) (hE : foE r (L a) (L b) = 0) (e : B (foT r (L a) (L b)) = T) :
    Calls Tryd.prog 8 #[.string T] w fun e w' => e = .returned (.tuple #[.agg x, .string a, .string b, .int .i64 0]) ∧ Below w.heap.size w w' := by
  have := par_any T w hT hQ hs
  have hl : L T = foT r (L a) (L b) := by rw [← e]
  rw [hl, parV_back hB hE, hx, B_L, B_L] at this
  exact this
theorem par_no (s : ByteArray) {w : World} (hT : Tab w) (hQ : Lib.TabIs Tryd.prog w "internal/strconv.uint64pow10" .u64 Lib.pow10Tab) (hs : s.size ≤ 1000) (h : ¬ (parW (L s)).ok (L s)) :
    Calls Tryd.prog 8 #[.string s] w fun e w' => e = .returned (.tuple #[Rc.nil.V, .string ⟨#[]⟩, .string ⟨#[]⟩, .int .i64 4]) ∧ Below w.heap.size w w' := by
  have := par_any s w hT hQ hs
  unfold parV at this
  rwa [if_neg h] at this
theorem nam_at {s : ByteArray} {b : Bool} (w : World) (hs : s.size ≤ maxLen) (h : nameB (L s) = b) :
    Calls Tryd.prog 10 #[.string s] w fun e w' => e = .returned (.bool b) ∧ Below w.heap.size w w' := by
  have := fname_any s w hs
  rw [h] at this
  exact this.mono fun e w' ⟨h1, h2⟩ => ⟨h1, by subst h2; exact Below.refl _ _⟩
abbrev lA : St := ⟨0, 10, 0, 5, 3, 0, 0, 0⟩
abbrev lB : St := ⟨0, 3, 0, 5, 2, 0, 0, 0⟩
abbrev lQ : St := ⟨0, 10, 0, 5, 3, 0, 0, 1⟩
abbrev lU : St := ⟨0, 3, 0, 5, 0, 0, 5, 0⟩
theorem bd_A : lA.Bd := ⟨⟨by decide, by decide⟩, ⟨by decide, by decide⟩, ⟨by decide, by decide⟩, ⟨by decide, by decide⟩, ⟨by decide, by decide⟩, ⟨by decide, by decide⟩, ⟨by decide, by decide⟩, ⟨by decide, by decide⟩⟩
theorem bd_B : lB.Bd := ⟨⟨by decide, by decide⟩, ⟨by decide, by decide⟩, ⟨by decide, by decide⟩, ⟨by decide, by decide⟩, ⟨by decide, by decide⟩, ⟨by decide, by decide⟩, ⟨by decide, by decide⟩, ⟨by decide, by decide⟩⟩
theorem bd_Q : lQ.Bd := ⟨⟨by decide, by decide⟩, ⟨by decide, by decide⟩, ⟨by decide, by decide⟩, ⟨by decide, by decide⟩, ⟨by decide, by decide⟩, ⟨by decide, by decide⟩, ⟨by decide, by decide⟩, ⟨by decide, by decide⟩⟩
theorem bd_U : lU.Bd := ⟨⟨by decide, by decide⟩, ⟨by decide, by decide⟩, ⟨by decide, by decide⟩, ⟨by decide, by decide⟩, ⟨by decide, by decide⟩, ⟨by decide, by decide⟩, ⟨by decide, by decide⟩, ⟨by decide, by decide⟩⟩
abbrev cX : Rc := ⟨-60, 0, -60, lA, lB⟩
abbrev cQ : Rc := ⟨-60, 0, -60, lQ, lB⟩
abbrev cU : Rc := ⟨-60, 0, -30, lA, lU⟩
abbrev cP : Rc := ⟨210, 0, 0, St.nil, St.nil⟩
theorem cX_bd : cX.Bd := ⟨by decide, by decide, by decide, bd_A, bd_B⟩
theorem cQ_bd : cQ.Bd := ⟨by decide, by decide, by decide, bd_Q, bd_B⟩
theorem cU_bd : cU.Bd := ⟨by decide, by decide, by decide, bd_A, bd_U⟩
theorem cP_bd : cP.Bd := ⟨by decide, by decide, by decide, nil_bd, nil_bd⟩
abbrev rX : Array Value := #[.int .i32 (-60), .int .i32 (0), .int .i32 (-60), .int .u16 0, .int .u16 10, .int .u16 0, .int .u16 5, .int .u16 3, .int .u16 0, .int .u16 0, .int .u16 0, .int .u16 0, .int .u16 3, .int .u16 0, .int .u16 5, .int .u16 2, .int .u16 0, .int .u16 0, .int .u16 0]
abbrev rQ : Array Value := #[.int .i32 (-60), .int .i32 (0), .int .i32 (-60), .int .u16 0, .int .u16 10, .int .u16 0, .int .u16 5, .int .u16 3, .int .u16 0, .int .u16 0, .int .u16 1, .int .u16 0, .int .u16 3, .int .u16 0, .int .u16 5, .int .u16 2, .int .u16 0, .int .u16 0, .int .u16 0]
abbrev rU : Array Value := #[.int .i32 (-60), .int .i32 (0), .int .i32 (-30), .int .u16 0, .int .u16 10, .int .u16 0, .int .u16 5, .int .u16 3, .int .u16 0, .int .u16 0, .int .u16 0, .int .u16 0, .int .u16 3, .int .u16 0, .int .u16 5, .int .u16 0, .int .u16 0, .int .u16 5, .int .u16 0]
abbrev rP : Array Value := #[.int .i32 (210), .int .i32 (0), .int .i32 (0), .int .u16 0, .int .u16 0, .int .u16 0, .int .u16 0, .int .u16 0, .int .u16 0, .int .u16 0, .int .u16 0, .int .u16 0, .int .u16 0, .int .u16 0, .int .u16 0, .int .u16 0, .int .u16 0, .int .u16 0, .int .u16 0]
abbrev rN : Array Value := #[.int .i32 (0), .int .i32 (0), .int .i32 (0), .int .u16 0, .int .u16 0, .int .u16 0, .int .u16 0, .int .u16 0, .int .u16 0, .int .u16 0, .int .u16 0, .int .u16 0, .int .u16 0, .int .u16 0, .int .u16 0, .int .u16 0, .int .u16 0, .int .u16 0, .int .u16 0]
abbrev sC : ByteArray := ⟨#[67, 69, 84]⟩
abbrev sD : ByteArray := ⟨#[67, 69, 83, 84]⟩
abbrev sE : ByteArray := ⟨#[]⟩
abbrev sP : ByteArray := ⟨#[45, 48, 51, 51, 48]⟩
abbrev sT1 : ByteArray := ⟨#[67, 69, 84, 45, 49, 67, 69, 83, 84, 44, 77, 51, 46, 53, 46, 48, 44, 77, 49, 48, 46, 53, 46, 48, 47, 51]⟩
abbrev sT2 : ByteArray := ⟨#[60, 45, 48, 51, 51, 48, 62, 51, 58, 51, 48]⟩
abbrev sT3 : ByteArray := ⟨#[67, 69, 84, 45, 49, 67, 69, 83, 84, 45, 49, 58, 51, 48, 44, 77, 51, 46, 53, 46, 48, 47, 48, 58, 48, 48, 58, 48, 53, 44, 77, 49, 48, 46, 53, 46, 48, 47, 51]⟩
abbrev sB : ByteArray := ⟨#[67, 69, 84, 45, 49, 67, 69, 83, 84, 45, 50, 44, 77, 51, 46, 53, 46, 48, 44, 77, 49, 48, 46, 53, 46, 48, 47, 51]⟩
set_option maxRecDepth 100000 in
set_option maxHeartbeats 8000000 in
theorem lives40_any (w : World) (hT : Tab w) (hQ : Lib.TabIs Tryd.prog w "internal/strconv.uint64pow10" .u64 Lib.pow10Tab) :
    Calls Tryd.prog 5 #[] w fun e w' => e = .returned (.bool true) ∧ Below w.heap.size w w' := by
  have i0 := Civ.Inv.start hT
  go_enter Tryd.func5, Tryd.ntmps5
  go_upto_region 2 with (first | refine wpList_store_new rfl 26 _ _ rfl rfl w.heap.size rX rfl rfl _ rN w rfl rfl rfl (by kernel_rfl) (by kernel_rfl) ?_)
  have r := Blk.new w 26 rX
  have nwr : w.heap.size ≤ w.heap.size := i0.2.size
  replace i0 := i0.alloc (.cells rX 26)
  generalize w.alloc (.cells rX 26) = V1 at *
  go_wp2_with (refine wpList_row_g rfl 26 _ rfl _ rfl _ _ _ _ r Tryd.underlying26 rfl (by kernel_rfl) ?_)
  refine (txt_at (r := cX) (a := sC) (b := sD) (T := sT1) i0.1 ((Lib.tabBelow_of_tabIs hQ) _ i0.2) (by kernel_rfl) (by decide) (by decide) cX_bd (by decide +kernel) (by kernel_rfl)).mono ?_; rintro e V2 ⟨rfl, hb⟩
  replace r := r.below hb r.lt
  replace i0 := i0.call hb; clear hb
  go_wp2_with fail
  refine (par_at (r := cX) (a := sC) (b := sD) (T := sT1) i0.1 ((Lib.tabBelow_of_tabIs hQ) _ i0.2) (by decide) (x := rX) (by kernel_rfl) cX_bd (by decide +kernel) (by kernel_rfl)).mono ?_; rintro e V3 ⟨rfl, hb⟩
  replace r := r.below hb r.lt
  replace i0 := i0.call hb; clear hb
  go_upto_region 4 with (first | refine wpList_store_new rfl 26 _ _ rfl rfl V3.heap.size rX rfl rfl _ rN V3 rfl rfl rfl (by kernel_rfl) (by kernel_rfl) ?_)
  have x := Blk.new V3 26 rX
  have nrx : w.heap.size < V3.heap.size := r.lt
  replace r := r.alloc (.cells rX 26)
  have nwx : w.heap.size ≤ V3.heap.size := i0.2.size
  replace i0 := i0.alloc (.cells rX 26)
  generalize V3.alloc (.cells rX 26) = V4 at *
  generalize V3.heap.size = gx at *
  go_wp2_with fail
  refine (txt_at (r := cP) (a := sP) (b := sE) (T := sT2) i0.1 ((Lib.tabBelow_of_tabIs hQ) _ i0.2) (by kernel_rfl) (by decide) (by decide) cP_bd (by decide +kernel) (by kernel_rfl)).mono ?_; rintro e V5 ⟨rfl, hb⟩
  replace r := r.below hb r.lt
  replace x := x.below hb x.lt
  replace i0 := i0.call hb; clear hb
  go_wp2_with fail
  refine (par_at (r := cP) (a := sP) (b := sE) (T := sT2) i0.1 ((Lib.tabBelow_of_tabIs hQ) _ i0.2) (by decide) (x := rP) (by kernel_rfl) cP_bd (by decide +kernel) (by kernel_rfl)).mono ?_; rintro e V6 ⟨rfl, hb⟩
  replace r := r.below hb r.lt
  replace x := x.below hb x.lt
  replace i0 := i0.call hb; clear hb
  go_upto_region 6 with (first | refine wpList_store_new rfl 26 _ _ rfl rfl V6.heap.size rP rfl rfl _ rN V6 rfl rfl rfl (by kernel_rfl) (by kernel_rfl) ?_)
  have y := Blk.new V6 26 rP
  have nry : w.heap.size < V6.heap.size := r.lt
  replace r := r.alloc (.cells rP 26)
  have nxy : gx < V6.heap.size := x.lt
  replace x := x.alloc (.cells rP 26)
  have nwy : w.heap.size ≤ V6.heap.size := i0.2.size
  replace i0 := i0.alloc (.cells rP 26)
  generalize V6.alloc (.cells rP 26) = V7 at *
  generalize V6.heap.size = gy at *
  go_wp2_with (refine wpList_row_g rfl 26 _ rfl _ rfl _ _ _ _ r Tryd.underlying26 rfl (by kernel_rfl) ?_)
  refine (txt_no (r := cX) (a := sC) (b := sE) (E := 7) i0.1 (by decide) (by decide) cX_bd (by decide +kernel) (by decide)).mono ?_; rintro e V8 ⟨rfl, hb⟩
  replace r := r.below hb r.lt
  replace x := x.below hb x.lt
  replace y := y.below hb y.lt
  replace i0 := i0.call hb; clear hb
  go_upto_region 8 with (first | refine wpList_store_new rfl 26 _ _ rfl rfl V8.heap.size rX rfl rfl _ rN V8 rfl rfl rfl (by kernel_rfl) (by kernel_rfl) ?_ | (refine wpList_row_g rfl 26 _ rfl _ rfl _ _ _ _ r Tryd.underlying26 rfl (by kernel_rfl) ?_))
  have q := Blk.new V8 26 rX
  have nrq : w.heap.size < V8.heap.size := r.lt
  replace r := r.alloc (.cells rX 26)
  have nxq : gx < V8.heap.size := x.lt
  replace x := x.alloc (.cells rX 26)
  have nyq : gy < V8.heap.size := y.lt
  replace y := y.alloc (.cells rX 26)
  have nwq : w.heap.size ≤ V8.heap.size := i0.2.size
  replace i0 := i0.alloc (.cells rX 26)
  generalize V8.alloc (.cells rX 26) = V9 at *
  generalize V8.heap.size = gq at *
  have fq := q.frozen 10; have cq : V9.cell? ⟨gq, 10, none⟩ = some (.int .u16 0) := q.cell 10
  go_upto_region 9 with fail
  replace r := (r.far (p := ⟨gq, 10, none⟩) (fun e => by have e2 : w.heap.size = gq := e; omega) (.int .u16 1))
  replace x := (x.far (p := ⟨gq, 10, none⟩) (fun e => by have e2 : gx = gq := e; omega) (.int .u16 1))
  replace y := (y.far (p := ⟨gq, 10, none⟩) (fun e => by have e2 : gy = gq := e; omega) (.int .u16 1))
  have q9 : Blk (V9.setCell ⟨gq, 10, none⟩ (.int .u16 1)) gq 26 rQ := (q.set_ 10 (.int .u16 1))
  replace i0 : Civ.Inv w (V9.setCell ⟨gq, 10, none⟩ (.int .u16 1)) := ⟨(hT.below hT.1 (i0.2.setCell nwq (p := ⟨gq, 10, none⟩) (.int .u16 1))), (i0.2.setCell nwq (p := ⟨gq, 10, none⟩) (.int .u16 1))⟩
  clear q; have q := q9; clear q9
  generalize (V9.setCell ⟨gq, 10, none⟩ (.int .u16 1)) = V10 at *
  clear fq cq
  go_wp2_with (refine wpList_row_g rfl 26 _ rfl _ rfl _ _ _ _ q Tryd.underlying26 rfl (by kernel_rfl) ?_)
  refine (txt_no (r := cQ) (a := sC) (b := sD) (E := 3) i0.1 (by decide) (by decide) cQ_bd (by decide +kernel) (by decide)).mono ?_; rintro e V11 ⟨rfl, hb⟩
  replace r := r.below hb r.lt
  replace x := x.below hb x.lt
  replace y := y.below hb y.lt
  replace q := q.below hb q.lt
  replace i0 := i0.call hb; clear hb
  go_wp2_with fail
  refine (par_no sB i0.1 ((Lib.tabBelow_of_tabIs hQ) _ i0.2) (by decide) (by decide +kernel)).mono ?_; rintro e V12 ⟨rfl, hb⟩
  replace r := r.below hb r.lt
  replace x := x.below hb x.lt
  replace y := y.below hb y.lt
  replace q := q.below hb q.lt
  replace i0 := i0.call hb; clear hb
  go_upto_region 11 with (first | refine wpList_store_new rfl 26 _ _ rfl rfl V12.heap.size rN rfl rfl _ rN V12 rfl rfl rfl (by kernel_rfl) (by kernel_rfl) ?_)
  have z := Blk.new V12 26 rN
  have nrz : w.heap.size < V12.heap.size := r.lt
  replace r := r.alloc (.cells rN 26)
  have nxz : gx < V12.heap.size := x.lt
  replace x := x.alloc (.cells rN 26)
  have nyz : gy < V12.heap.size := y.lt
  replace y := y.alloc (.cells rN 26)
  have nqz : gq < V12.heap.size := q.lt
  replace q := q.alloc (.cells rN 26)
  have nwz : w.heap.size ≤ V12.heap.size := i0.2.size
  replace i0 := i0.alloc (.cells rN 26)
  generalize V12.alloc (.cells rN 26) = V13 at *
  generalize V12.heap.size = gz at *
  go_upto_region 12 with (first | (refine wpList_store_g rfl 26 _ _ rfl rfl gq 0 rX rX rfl rfl _ _ q (Nat.le_refl 19) (by kernel_rfl) (by kernel_rfl) (by kernel_rfl) ?_) | (refine wpList_row_g rfl 26 _ rfl _ rfl _ _ _ _ r Tryd.underlying26 rfl (by kernel_rfl) ?_))
  replace r := Blk.rowFar (g' := gq) r (by omega) rX
  replace x := Blk.rowFar (g' := gq) x (by omega) rX
  replace y := Blk.rowFar (g' := gq) y (by omega) rX
  replace z := Blk.rowFar (g' := gq) z (by omega) rX
  replace q := Blk.row (g := gq) q rX
  replace i0 : Civ.Inv w (V13.setRow gq rX) := ⟨hT.below hT.1 (below_row i0.2 nwq _), below_row i0.2 nwq _⟩
  generalize (V13.setRow gq rX) = V14 at *
  have f0 := q.frozen 2
  have c0 : V14.cell? ⟨gq, 2, none⟩ = some (.int .i32 (-60)) := q.cell 2
  have c1 : (V14.setCell ⟨gq, 2, none⟩ (.int .i32 (-30))).cell? ⟨gq, 15, none⟩ = some (.int .u16 2) := (q.set_ 2 (.int .i32 (-30))).cell 15
  have c2 : ((V14.setCell ⟨gq, 2, none⟩ (.int .i32 (-30))).setCell ⟨gq, 15, none⟩ (.int .u16 0)).cell? ⟨gq, 17, none⟩ = some (.int .u16 0) := ((q.set_ 2 (.int .i32 (-30))).set_ 15 (.int .u16 0)).cell 17
  have f1 := (q.set_ 2 (.int .i32 (-30))).frozen 15
  have f2 := ((q.set_ 2 (.int .i32 (-30))).set_ 15 (.int .u16 0)).frozen 17
  go_upto_region 13 with fail
  replace r := (((r.far (p := ⟨gq, 2, none⟩) (fun e => by have e2 : w.heap.size = gq := e; omega) (.int .i32 (-30))).far (p := ⟨gq, 15, none⟩) (fun e => by have e2 : w.heap.size = gq := e; omega) (.int .u16 0)).far (p := ⟨gq, 17, none⟩) (fun e => by have e2 : w.heap.size = gq := e; omega) (.int .u16 5))
  replace x := (((x.far (p := ⟨gq, 2, none⟩) (fun e => by have e2 : gx = gq := e; omega) (.int .i32 (-30))).far (p := ⟨gq, 15, none⟩) (fun e => by have e2 : gx = gq := e; omega) (.int .u16 0)).far (p := ⟨gq, 17, none⟩) (fun e => by have e2 : gx = gq := e; omega) (.int .u16 5))
  replace y := (((y.far (p := ⟨gq, 2, none⟩) (fun e => by have e2 : gy = gq := e; omega) (.int .i32 (-30))).far (p := ⟨gq, 15, none⟩) (fun e => by have e2 : gy = gq := e; omega) (.int .u16 0)).far (p := ⟨gq, 17, none⟩) (fun e => by have e2 : gy = gq := e; omega) (.int .u16 5))
  replace z := (((z.far (p := ⟨gq, 2, none⟩) (fun e => by have e2 : gz = gq := e; omega) (.int .i32 (-30))).far (p := ⟨gq, 15, none⟩) (fun e => by have e2 : gz = gq := e; omega) (.int .u16 0)).far (p := ⟨gq, 17, none⟩) (fun e => by have e2 : gz = gq := e; omega) (.int .u16 5))
  have q9 : Blk (((V14.setCell ⟨gq, 2, none⟩ (.int .i32 (-30))).setCell ⟨gq, 15, none⟩ (.int .u16 0)).setCell ⟨gq, 17, none⟩ (.int .u16 5)) gq 26 rU := (((q.set_ 2 (.int .i32 (-30))).set_ 15 (.int .u16 0)).set_ 17 (.int .u16 5))
  replace i0 : Civ.Inv w (((V14.setCell ⟨gq, 2, none⟩ (.int .i32 (-30))).setCell ⟨gq, 15, none⟩ (.int .u16 0)).setCell ⟨gq, 17, none⟩ (.int .u16 5)) := ⟨(hT.below hT.1 (((i0.2.setCell nwq (p := ⟨gq, 2, none⟩) (.int .i32 (-30))).setCell nwq (p := ⟨gq, 15, none⟩) (.int .u16 0)).setCell nwq (p := ⟨gq, 17, none⟩) (.int .u16 5))), (((i0.2.setCell nwq (p := ⟨gq, 2, none⟩) (.int .i32 (-30))).setCell nwq (p := ⟨gq, 15, none⟩) (.int .u16 0)).setCell nwq (p := ⟨gq, 17, none⟩) (.int .u16 5))⟩
  clear q; have q := q9; clear q9
  generalize (((V14.setCell ⟨gq, 2, none⟩ (.int .i32 (-30))).setCell ⟨gq, 15, none⟩ (.int .u16 0)).setCell ⟨gq, 17, none⟩ (.int .u16 5)) = V15 at *
  clear f0 f1 f2 c0 c1 c2
  simp only [List.append] at *
  go_wp2_with (refine wpList_row_g rfl 26 _ rfl _ rfl _ _ _ _ q Tryd.underlying26 rfl (by kernel_rfl) ?_)
  refine (txt_at (r := cU) (a := sC) (b := sD) (T := sT3) i0.1 ((Lib.tabBelow_of_tabIs hQ) _ i0.2) (by kernel_rfl) (by decide) (by decide) cU_bd (by decide +kernel) (by kernel_rfl)).mono ?_; rintro e V16 ⟨rfl, hb⟩
  replace r := r.below hb r.lt
  replace x := x.below hb x.lt
  replace y := y.below hb y.lt
  replace q := q.below hb q.lt
  replace z := z.below hb z.lt
  replace i0 := i0.call hb; clear hb
  have hq1 : ∀ w, (binOp .eql 26 (.agg rX) (.agg rX)).run Tryd.prog w = .ok (.bool true) w := fun w => (eq_rc (-60) 0 (-60) (-60) 0 (-60) lA lB lA lB w).trans (by rw [show eqR (-60) 0 (-60) lA lB (-60) 0 (-60) lA lB = true by decide +kernel])
  have hq2 : ∀ w, (binOp .eql 26 (.agg rP) (.agg rP)).run Tryd.prog w = .ok (.bool true) w := fun w => (eq_rc 210 0 0 210 0 0 St.nil St.nil St.nil St.nil w).trans (by rw [show eqR 210 0 0 St.nil St.nil 210 0 0 St.nil St.nil = true by decide +kernel])
  go_wp2_with (first | (refine wpList_row_g rfl 26 _ rfl _ rfl _ _ _ _ x Tryd.underlying26 rfl (by kernel_rfl) ?_) | (refine wpList_row_g rfl 26 _ rfl _ rfl _ _ _ _ r Tryd.underlying26 rfl (by kernel_rfl) ?_) | (refine wpList_row_g rfl 26 _ rfl _ rfl _ _ _ _ y Tryd.underlying26 rfl (by kernel_rfl) ?_))
  refine (nam_at (s := ⟨#[65, 43, 49]⟩) (b := true) V16 (by decide) (by decide +kernel)).mono ?_; rintro e V17 ⟨rfl, hb⟩
  replace r := r.below hb r.lt
  replace x := x.below hb x.lt
  replace y := y.below hb y.lt
  replace q := q.below hb q.lt
  replace z := z.below hb z.lt
  replace i0 := i0.call hb; clear hb
  go_wp2_with fail
  refine (nam_at (s := ⟨#[65, 66]⟩) (b := false) V17 (by decide) (by decide +kernel)).mono ?_; rintro e V18 ⟨rfl, hb⟩
  replace r := r.below hb r.lt
  replace x := x.below hb x.lt
  replace y := y.below hb y.lt
  replace q := q.below hb q.lt
  replace z := z.below hb z.lt
  replace i0 := i0.call hb; clear hb
  go_wp2_with fail
  go_ret
  exact ⟨rfl, i0.2⟩
end Go.Proofs.YtgdgkgeoigljcaaDoor.Fo
