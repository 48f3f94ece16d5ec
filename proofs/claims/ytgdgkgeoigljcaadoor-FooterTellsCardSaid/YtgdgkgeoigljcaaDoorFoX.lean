/-
  The document's reader of footers: a time: walked.
-/
import Derived.Test.YtgdgkgeoigljcaaDoorFoW
namespace Go.Proofs.YtgdgkgeoigljcaaDoor.Fo
open Go.ChangeShapes Go.WideShapes Go.ChangeAt Go.RowKit Go.Shelf
open Go.Proofs.YtgdgkgeoigljcaaDoor
open Go.Proofs.YtgdgkgeoigljcaaDoor.Wd
open Go.Proofs.YtgdgkgeoigljcaaDoor.Rec
set_option linter.unusedVariables false
set_option linter.unusedSimpArgs false
/-- what the loop over minutes and seconds answers from a state on -/
def contQ : Nat → Int × Rs → Int × Rs
  | 0, a => if (mayR 58 a.2).1 = true then (if (mayR 58 (unitQ 60 a).2).1 = true then unitQ 1 (unitQ 60 a) else unitQ 60 a) else a
  | 1, a => if (mayR 58 a.2).1 = true then unitQ 1 a else a
  | _ + 2, a => a
set_option maxRecDepth 20000 in
set_option maxHeartbeats 12800000 in
theorem rtim_any (X : Rs) (w : World) (hX : X.s.length ≤ 100000) :
    Calls Tryd.prog 34 #[rv X] w fun e w' => e = .returned (.tuple #[rv (timQ X).2, .int .i64 (timQ X).1]) ∧ Below w.heap.size w w' := by
  obtain ⟨g1, hg1⟩ : ∃ g1, g1 = w.heap.size + 1 := ⟨_, rfl⟩
  have x0 := (Blk.new w 62 #[.string (B X.s), .bool X.bad]).alloc (.cells #[.string ⟨#[]⟩, .bool false] 62)
  have y0 : Blk ((w.alloc (.cells #[.string (B X.s), .bool X.bad] 62)).alloc (.cells #[.string ⟨#[]⟩, .bool false] 62)) g1 62 #[.string ⟨#[]⟩, .bool false] := by have := blk_at' (w.alloc (.cells #[.string (B X.s), .bool X.bad] 62)) 62 #[.string ⟨#[]⟩, .bool false] (sz1 w (.cells #[.string (B X.s), .bool X.bad] 62) rfl); rw [hg1]; exact this
  have hb0 : Below w.heap.size w ((w.alloc (.cells #[.string (B X.s), .bool X.bad] 62)).alloc (.cells #[.string ⟨#[]⟩, .bool false] 62)) := ((Below.refl _ w).alloc (Nat.le_refl _) _).alloc (by rw [sz1 _ _ rfl]; exact Nat.le_succ _) _
  go_enter Tryd.func34, Tryd.ntmps34
  go_upto_region 1 with fail
  generalize (w.alloc (.cells #[.string (B X.s), .bool X.bad] 62)).alloc (.cells #[.string ⟨#[]⟩, .bool false] 62) = W at *
  rw [← hg1]
  have hgl : w.heap.size < g1 := by omega
  clear hg1
  have hz : w.heap.size < g1 := hgl
  obtain ⟨b, y, HM0⟩ : ∃ b y, mayR 45 X = (b, y) := ⟨_, _, rfl⟩
  have c1 := rsgn_any 45 X W hX; have hy := may_len 45 X; rw [HM0] at c1 hy; replace hy : y.s.length ≤ 100000 := Nat.le_trans hy hX
  have HM := Lib.hid HM0; clear HM0
  go_wp2_with (refine wpList_row_g rfl 62 _ rfl _ rfl _ _ _ _ x0 Tryd.underlying62 rfl (by kernel_rfl) ?_)
  refine (c1).mono ?_; rintro e W1 ⟨rfl, hb⟩
  replace x0 := x0.below hb x0.lt
  replace y0 := y0.below hb y0.lt
  replace hb0 := hb0.trans (hb.mono hb0.size); clear hb
  clear c1
  go_upto_region 2 with (refine wpList_store_seg rfl 62 _ _ rfl rfl w.heap.size 0 #[.string (B y.s), .bool y.bad] #[.string (B y.s), .bool y.bad] rfl rfl _ _ x0 (Nat.le_refl 2) (by kernel_rfl) (by kernel_rfl) (by kernel_rfl) ?_)
  replace y0 := Blk.rowFar (g' := w.heap.size) y0 (by omega) #[.string (B y.s), .bool y.bad]
  replace x0 := Blk.row (g := w.heap.size) x0 #[.string (B y.s), .bool y.bad]
  replace hb0 := below_row hb0 (show w.heap.size ≤ w.heap.size by omega) #[.string (B y.s), .bool y.bad]
  generalize World.setRow _ w.heap.size #[.string (B y.s), .bool y.bad] = W2 at *
  obtain ⟨n, z, HN0⟩ : ∃ n z, numR 4 y = (n, z) := ⟨_, _, rfl⟩
  have c1 := rnm_any y W2 hy; have hzl := numr_len 4 y; have hn9 := numq_le y; rw [HN0] at c1 hzl hn9; replace hzl : z.s.length ≤ 100000 := Nat.le_trans hzl hy; replace hn9 : n ≤ 9999 := hn9
  have HQ := Lib.hid (show contQ 0 ((n : Int) * 3600, z) = absQ y by unfold absQ; rw [HN0]; rfl)
  clear HN0
  go_wp2_with (refine wpList_row_g rfl 62 _ rfl _ rfl _ _ _ _ x0 Tryd.underlying62 rfl (by kernel_rfl) ?_)
  refine (c1).mono ?_; rintro e W3 ⟨rfl, hb⟩
  replace x0 := x0.below hb x0.lt
  replace y0 := y0.below hb y0.lt
  replace hb0 := hb0.trans (hb.mono hb0.size); clear hb
  clear c1
  go_upto_region 3 with (refine wpList_store_seg rfl 62 _ _ rfl rfl w.heap.size 0 #[.string (B z.s), .bool z.bad] #[.string (B z.s), .bool z.bad] rfl rfl _ _ x0 (Nat.le_refl 2) (by kernel_rfl) (by kernel_rfl) (by kernel_rfl) ?_)
  replace y0 := Blk.rowFar (g' := w.heap.size) y0 (by omega) #[.string (B z.s), .bool z.bad]
  replace x0 := Blk.row (g := w.heap.size) x0 #[.string (B z.s), .bool z.bad]
  replace hb0 := below_row hb0 (show w.heap.size ≤ w.heap.size by omega) #[.string (B z.s), .bool z.bad]
  generalize World.setRow _ w.heap.size #[.string (B z.s), .bool z.bad] = W4 at *
  obtain ⟨a, ha⟩ : ∃ a : Int × Rs, a = ((n : Int) * 3600, z) := ⟨_, rfl⟩
  have wn : IntKind.i64.wrap ((n : Int) * 3600) = a.1 := by rw [ha]; simp [IntKind.wrap, IntKind.bits, IntKind.signed]; omega
  have hab : 0 ≤ a.1 ∧ a.1 ≤ 40000000 := by rw [ha]; dsimp only; omega
  have hal : a.2.s.length ≤ 100000 := by rw [ha]; exact hzl
  rw [← ha] at HQ
  have x0a : Blk W4 w.heap.size 62 #[.string (B a.2.s), .bool a.2.bad] := by rw [ha]; exact x0
  clear x0 ha hzl hn9
  have x0 := x0a; clear x0a
  go_upto_region 4 with fail
  have sl := Blk.new W4 2 #[.int .i64 60, .int .i64 1]
  replace x0 := x0.alloc (.cells #[.int .i64 60, .int .i64 1] 2); replace y0 := y0.alloc (.cells #[.int .i64 60, .int .i64 1] 2)
  have hg2 : g1 < W4.heap.size := by have := y0.lt; rw [sz1 _ _ rfl] at this; have q : g1 ≠ W4.heap.size := Wd.Blk.ne_ y0 sl (by decide); omega
  replace hb0 := hb0.alloc hb0.size (.cells #[.int .i64 60, .int .i64 1] 2)
  go_wp2_with fail
  generalize W4.alloc (.cells #[.int .i64 60, .int .i64 1] 2) = V at *
  generalize W4.heap.size = g2 at *
  go_loopw [5, 25] (fun nv iv wr => ∃ (k : Nat) (a : Int × Rs), iv = .int .i64 (k : Int) ∧ k ≤ 2 ∧ nv = .int .i64 a.1 ∧ contQ k a = absQ y ∧ (0 ≤ a.1 ∧ a.1 ≤ 40000000 + k * 600000) ∧ a.2.s.length ≤ 100000 ∧ Blk wr w.heap.size 62 #[.string (B a.2.s), .bool a.2.bad] ∧ Blk wr g1 62 #[.string ⟨#[]⟩, .bool false] ∧ Blk wr g2 2 #[.int .i64 60, .int .i64 1] ∧ Below w.heap.size w wr) (fun _ iv _ => 2 - (intOf iv).toNat)
  case atStart => exact ⟨0, a, rfl, by decide, rfl, HQ.out, ⟨hab.1, by omega⟩, hal, x0, y0, sl, hb0⟩
  case round =>
    clear hal hab HQ x0 y0 sl hb0
    obtain ⟨k, a, rfl, hk, rfl, hq, hab, hal, x0, y0, sl, hb0⟩ := hrel
    have HQ0 := Lib.hid hq; clear hq
    have hkc : k = 0 ∨ k = 1 ∨ k = 2 := by omega
    rcases hkc with rfl | rfl | rfl
    · skip
      obtain ⟨m, v, HM1⟩ : ∃ m v, mayR 58 a.2 = (m, v) := ⟨_, _, rfl⟩
      have hvl := may_len 58 a.2; rw [HM1] at hvl; replace hvl : v.s.length ≤ 100000 := Nat.le_trans hvl hal
      have c1 := rsgn_any 58 a.2 wr hal; rw [HM1] at c1
      have cs : wr.cell? ⟨g2, 0, none⟩ = some (.int .i64 60) := sl.cell 0
      cases m with
      | true =>
        obtain ⟨d, q, HN1⟩ : ∃ d q, numR 4 v = (d, q) := ⟨_, _, rfl⟩
        have hql := numr_len 4 v; have hd9 := numq_le v; rw [HN1] at hql hd9; replace hql : q.s.length ≤ 100000 := Nat.le_trans hql hvl; replace hd9 : d ≤ 9999 := hd9
        have HU := Lib.hid (show contQ 1 (a.1 + 60 * (d : Int), q) = absQ y by rw [← HQ0.out]; show _ = (if (mayR 58 a.2).1 = true then contQ 1 (unitQ 60 a) else a); rw [HM1, if_pos rfl]; unfold unitQ; rw [HM1, HN1])
        clear HQ0 HM1
        go_wp2_with (refine wpList_row_g rfl 62 _ rfl _ rfl _ _ _ _ x0 Tryd.underlying62 rfl (by kernel_rfl) ?_)
        refine (c1).mono ?_; rintro e W5 ⟨rfl, hb⟩
        replace x0 := x0.below hb x0.lt
        replace y0 := y0.below hb y0.lt
        replace sl := sl.below hb sl.lt
        replace hb0 := hb0.trans (hb.mono hb0.size); clear hb
        clear c1 cs
        go_upto_region 8 with (refine wpList_store_new rfl 62 _ _ rfl rfl W5.heap.size #[.string (B v.s), .bool v.bad] rfl rfl _ #[.string ⟨#[]⟩, .bool false] W5 rfl rfl rfl (by kernel_rfl) (by kernel_rfl) ?_)
        have xx := Blk.new W5 62 #[.string (B v.s), .bool v.bad]
        replace x0 := x0.alloc (.cells #[.string (B v.s), .bool v.bad] 62)
        replace y0 := y0.alloc (.cells #[.string (B v.s), .bool v.bad] 62)
        replace sl := sl.alloc (.cells #[.string (B v.s), .bool v.bad] 62)
        have hg3 : g2 < W5.heap.size := by have := sl.lt; rw [sz1 _ _ rfl] at this; have q : g2 ≠ W5.heap.size := Wd.Blk.ne_ sl xx (by decide); omega
        replace hb0 := hb0.alloc hb0.size (.cells #[.string (B v.s), .bool v.bad] 62)
        generalize W5.alloc (.cells #[.string (B v.s), .bool v.bad] 62) = V0 at *
        generalize W5.heap.size = g3 at *
        have c2 := rnm_any v V0 hvl; rw [HN1] at c2; clear HN1
        go_wp2_with (refine wpList_row_g rfl 62 _ rfl _ rfl _ _ _ _ xx Tryd.underlying62 rfl (by kernel_rfl) ?_)
        refine (c2).mono ?_; rintro e W6 ⟨rfl, hb⟩
        replace x0 := x0.below hb x0.lt
        replace y0 := y0.below hb y0.lt
        replace sl := sl.below hb sl.lt
        replace xx := xx.below hb xx.lt
        replace hb0 := hb0.trans (hb.mono hb0.size); clear hb
        clear c2
        go_upto_region 11 with (refine wpList_store_seg rfl 62 _ _ rfl rfl w.heap.size 0 #[.string (B q.s), .bool q.bad] #[.string (B q.s), .bool q.bad] rfl rfl _ _ x0 (Nat.le_refl 2) (by kernel_rfl) (by kernel_rfl) (by kernel_rfl) ?_)
        replace y0 := Blk.rowFar (g' := w.heap.size) y0 (by omega) #[.string (B q.s), .bool q.bad]
        replace sl := Blk.rowFar (g' := w.heap.size) sl (by omega) #[.string (B q.s), .bool q.bad]
        replace xx := Blk.rowFar (g' := w.heap.size) xx (by omega) #[.string (B q.s), .bool q.bad]
        replace x0 := Blk.row (g := w.heap.size) x0 #[.string (B q.s), .bool q.bad]
        replace hb0 := below_row hb0 (show w.heap.size ≤ w.heap.size by omega) #[.string (B q.s), .bool q.bad]
        generalize World.setRow _ w.heap.size #[.string (B q.s), .bool q.bad] = W7 at *
        have w1 : IntKind.i64.wrap (60 * (d : Int)) = 60 * (d : Int) := by simp [IntKind.wrap, IntKind.bits, IntKind.signed]; omega
        have w2 : IntKind.i64.wrap (a.1 + 60 * (d : Int)) = a.1 + 60 * (d : Int) := by simp [IntKind.wrap, IntKind.bits, IntKind.signed]; omega
        go_wp2_with fail
        go_roundw
        case rel => exact ⟨1, (a.1 + 60 * (d : Int), q), by go_num, by decide, rfl, HU.out, ⟨by dsimp only; omega, by dsimp only; omega⟩, hql, x0, y0, sl, hb0⟩
        case measure => simp [intOf]
      | false =>
        have HQ := Lib.hid (show absQ y = a by rw [← HQ0.out]; show (if (mayR 58 a.2).1 = true then contQ 1 (unitQ 60 a) else a) = a; rw [HM1, if_neg Bool.false_ne_true])
        clear HQ0 HM1
        go_wp2_with (refine wpList_row_g rfl 62 _ rfl _ rfl _ _ _ _ x0 Tryd.underlying62 rfl (by kernel_rfl) ?_)
        refine (c1).mono ?_; rintro e W5 ⟨rfl, hb⟩
        replace x0 := x0.below hb x0.lt
        replace y0 := y0.below hb y0.lt
        replace sl := sl.below hb sl.lt
        replace hb0 := hb0.trans (hb.mono hb0.size); clear hb
        clear c1 cs
        go_upto_region 8 with (refine wpList_store_new rfl 62 _ _ rfl rfl W5.heap.size #[.string (B v.s), .bool v.bad] rfl rfl _ #[.string ⟨#[]⟩, .bool false] W5 rfl rfl rfl (by kernel_rfl) (by kernel_rfl) ?_)
        replace x0 := x0.alloc (.cells #[.string (B v.s), .bool v.bad] 62)
        replace y0 := y0.alloc (.cells #[.string (B v.s), .bool v.bad] 62)
        replace sl := sl.alloc (.cells #[.string (B v.s), .bool v.bad] 62)
        replace hb0 := hb0.alloc hb0.size (.cells #[.string (B v.s), .bool v.bad] 62)
        generalize W5.alloc (.cells #[.string (B v.s), .bool v.bad] 62) = V0 at *
        have HF := Lib.hid (show timQ X = ((if b = true then -(a.1) else a.1), a.2) by unfold timQ; rw [HM.out, HQ.out])
        clear HQ HM
        cases b with
        | true =>
          have HV := Lib.hid (show Value.tuple #[.agg #[.string (B a.2.s), .bool a.2.bad], .int .i64 (-a.1)] = .tuple #[rv (timQ X).2, .int .i64 (timQ X).1] by rw [HF.out]; rfl)
          clear HF
          go_wp2_with (first | (refine wpList_row_g rfl 62 _ rfl _ rfl _ _ _ _ x0 Tryd.underlying62 rfl (by kernel_rfl) ?_) | (refine wpList_store_seg rfl 62 _ _ rfl rfl g1 0 #[.string (B a.2.s), .bool a.2.bad] #[.string (B a.2.s), .bool a.2.bad] rfl rfl _ _ y0 (Nat.le_refl 2) (by kernel_rfl) (by kernel_rfl) (by kernel_rfl) ?_))
          refine bodyPost_ret (results_rt (p := 2) (a := 3) rfl _ _ _ _ #[.string (B a.2.s), .bool a.2.bad] (.int .i64 (-a.1)) rfl rfl (Blk.row y0 _) rfl) rfl ⟨congrArg Ending.returned HV.out, below_row hb0 (by omega) _⟩
        | false =>
          have HV := Lib.hid (show Value.tuple #[.agg #[.string (B a.2.s), .bool a.2.bad], .int .i64 a.1] = .tuple #[rv (timQ X).2, .int .i64 (timQ X).1] by rw [HF.out]; rfl)
          clear HF
          go_wp2_with (first | (refine wpList_row_g rfl 62 _ rfl _ rfl _ _ _ _ x0 Tryd.underlying62 rfl (by kernel_rfl) ?_) | (refine wpList_store_seg rfl 62 _ _ rfl rfl g1 0 #[.string (B a.2.s), .bool a.2.bad] #[.string (B a.2.s), .bool a.2.bad] rfl rfl _ _ y0 (Nat.le_refl 2) (by kernel_rfl) (by kernel_rfl) (by kernel_rfl) ?_))
          refine bodyPost_ret (results_rt (p := 2) (a := 3) rfl _ _ _ _ #[.string (B a.2.s), .bool a.2.bad] (.int .i64 a.1) rfl rfl (Blk.row y0 _) rfl) rfl ⟨congrArg Ending.returned HV.out, below_row hb0 (by omega) _⟩
    · skip
      obtain ⟨m, v, HM1⟩ : ∃ m v, mayR 58 a.2 = (m, v) := ⟨_, _, rfl⟩
      have hvl := may_len 58 a.2; rw [HM1] at hvl; replace hvl : v.s.length ≤ 100000 := Nat.le_trans hvl hal
      have c1 := rsgn_any 58 a.2 wr hal; rw [HM1] at c1
      have cs : wr.cell? ⟨g2, 1, none⟩ = some (.int .i64 1) := sl.cell 1
      cases m with
      | true =>
        obtain ⟨d, q, HN1⟩ : ∃ d q, numR 4 v = (d, q) := ⟨_, _, rfl⟩
        have hql := numr_len 4 v; have hd9 := numq_le v; rw [HN1] at hql hd9; replace hql : q.s.length ≤ 100000 := Nat.le_trans hql hvl; replace hd9 : d ≤ 9999 := hd9
        have HU := Lib.hid (show contQ 2 (a.1 + 1 * (d : Int), q) = absQ y by rw [← HQ0.out]; show _ = (if (mayR 58 a.2).1 = true then contQ 2 (unitQ 1 a) else a); rw [HM1, if_pos rfl]; unfold unitQ; rw [HM1, HN1])
        clear HQ0 HM1
        go_wp2_with (refine wpList_row_g rfl 62 _ rfl _ rfl _ _ _ _ x0 Tryd.underlying62 rfl (by kernel_rfl) ?_)
        refine (c1).mono ?_; rintro e W5 ⟨rfl, hb⟩
        replace x0 := x0.below hb x0.lt
        replace y0 := y0.below hb y0.lt
        replace sl := sl.below hb sl.lt
        replace hb0 := hb0.trans (hb.mono hb0.size); clear hb
        clear c1 cs
        go_upto_region 8 with (refine wpList_store_new rfl 62 _ _ rfl rfl W5.heap.size #[.string (B v.s), .bool v.bad] rfl rfl _ #[.string ⟨#[]⟩, .bool false] W5 rfl rfl rfl (by kernel_rfl) (by kernel_rfl) ?_)
        have xx := Blk.new W5 62 #[.string (B v.s), .bool v.bad]
        replace x0 := x0.alloc (.cells #[.string (B v.s), .bool v.bad] 62)
        replace y0 := y0.alloc (.cells #[.string (B v.s), .bool v.bad] 62)
        replace sl := sl.alloc (.cells #[.string (B v.s), .bool v.bad] 62)
        have hg3 : g2 < W5.heap.size := by have := sl.lt; rw [sz1 _ _ rfl] at this; have q : g2 ≠ W5.heap.size := Wd.Blk.ne_ sl xx (by decide); omega
        replace hb0 := hb0.alloc hb0.size (.cells #[.string (B v.s), .bool v.bad] 62)
        generalize W5.alloc (.cells #[.string (B v.s), .bool v.bad] 62) = V1 at *
        generalize W5.heap.size = g3 at *
        have c2 := rnm_any v V1 hvl; rw [HN1] at c2; clear HN1
        go_wp2_with (refine wpList_row_g rfl 62 _ rfl _ rfl _ _ _ _ xx Tryd.underlying62 rfl (by kernel_rfl) ?_)
        refine (c2).mono ?_; rintro e W6 ⟨rfl, hb⟩
        replace x0 := x0.below hb x0.lt
        replace y0 := y0.below hb y0.lt
        replace sl := sl.below hb sl.lt
        replace xx := xx.below hb xx.lt
        replace hb0 := hb0.trans (hb.mono hb0.size); clear hb
        clear c2
        go_upto_region 11 with (refine wpList_store_seg rfl 62 _ _ rfl rfl w.heap.size 0 #[.string (B q.s), .bool q.bad] #[.string (B q.s), .bool q.bad] rfl rfl _ _ x0 (Nat.le_refl 2) (by kernel_rfl) (by kernel_rfl) (by kernel_rfl) ?_)
        replace y0 := Blk.rowFar (g' := w.heap.size) y0 (by omega) #[.string (B q.s), .bool q.bad]
        replace sl := Blk.rowFar (g' := w.heap.size) sl (by omega) #[.string (B q.s), .bool q.bad]
        replace xx := Blk.rowFar (g' := w.heap.size) xx (by omega) #[.string (B q.s), .bool q.bad]
        replace x0 := Blk.row (g := w.heap.size) x0 #[.string (B q.s), .bool q.bad]
        replace hb0 := below_row hb0 (show w.heap.size ≤ w.heap.size by omega) #[.string (B q.s), .bool q.bad]
        generalize World.setRow _ w.heap.size #[.string (B q.s), .bool q.bad] = W7 at *
        have w1 : IntKind.i64.wrap (d : Int) = (d : Int) := by simp [IntKind.wrap, IntKind.bits, IntKind.signed]; omega
        have w2 : IntKind.i64.wrap (a.1 + (d : Int)) = a.1 + (d : Int) := by simp [IntKind.wrap, IntKind.bits, IntKind.signed]; omega
        go_wp2_with fail
        go_roundw
        case rel => exact ⟨2, (a.1 + 1 * (d : Int), q), by go_num, by decide, by simp, HU.out, ⟨by dsimp only; omega, by dsimp only; omega⟩, hql, x0, y0, sl, hb0⟩
        case measure => simp [intOf]
      | false =>
        have HQ := Lib.hid (show absQ y = a by rw [← HQ0.out]; show (if (mayR 58 a.2).1 = true then contQ 2 (unitQ 1 a) else a) = a; rw [HM1, if_neg Bool.false_ne_true])
        clear HQ0 HM1
        go_wp2_with (refine wpList_row_g rfl 62 _ rfl _ rfl _ _ _ _ x0 Tryd.underlying62 rfl (by kernel_rfl) ?_)
        refine (c1).mono ?_; rintro e W5 ⟨rfl, hb⟩
        replace x0 := x0.below hb x0.lt
        replace y0 := y0.below hb y0.lt
        replace sl := sl.below hb sl.lt
        replace hb0 := hb0.trans (hb.mono hb0.size); clear hb
        clear c1 cs
        go_upto_region 8 with (refine wpList_store_new rfl 62 _ _ rfl rfl W5.heap.size #[.string (B v.s), .bool v.bad] rfl rfl _ #[.string ⟨#[]⟩, .bool false] W5 rfl rfl rfl (by kernel_rfl) (by kernel_rfl) ?_)
        replace x0 := x0.alloc (.cells #[.string (B v.s), .bool v.bad] 62)
        replace y0 := y0.alloc (.cells #[.string (B v.s), .bool v.bad] 62)
        replace sl := sl.alloc (.cells #[.string (B v.s), .bool v.bad] 62)
        replace hb0 := hb0.alloc hb0.size (.cells #[.string (B v.s), .bool v.bad] 62)
        generalize W5.alloc (.cells #[.string (B v.s), .bool v.bad] 62) = V1 at *
        have HF := Lib.hid (show timQ X = ((if b = true then -(a.1) else a.1), a.2) by unfold timQ; rw [HM.out, HQ.out])
        clear HQ HM
        cases b with
        | true =>
          have HV := Lib.hid (show Value.tuple #[.agg #[.string (B a.2.s), .bool a.2.bad], .int .i64 (-a.1)] = .tuple #[rv (timQ X).2, .int .i64 (timQ X).1] by rw [HF.out]; rfl)
          clear HF
          go_wp2_with (first | (refine wpList_row_g rfl 62 _ rfl _ rfl _ _ _ _ x0 Tryd.underlying62 rfl (by kernel_rfl) ?_) | (refine wpList_store_seg rfl 62 _ _ rfl rfl g1 0 #[.string (B a.2.s), .bool a.2.bad] #[.string (B a.2.s), .bool a.2.bad] rfl rfl _ _ y0 (Nat.le_refl 2) (by kernel_rfl) (by kernel_rfl) (by kernel_rfl) ?_))
          refine bodyPost_ret (results_rt (p := 2) (a := 3) rfl _ _ _ _ #[.string (B a.2.s), .bool a.2.bad] (.int .i64 (-a.1)) rfl rfl (Blk.row y0 _) rfl) rfl ⟨congrArg Ending.returned HV.out, below_row hb0 (by omega) _⟩
        | false =>
          have HV := Lib.hid (show Value.tuple #[.agg #[.string (B a.2.s), .bool a.2.bad], .int .i64 a.1] = .tuple #[rv (timQ X).2, .int .i64 (timQ X).1] by rw [HF.out]; rfl)
          clear HF
          go_wp2_with (first | (refine wpList_row_g rfl 62 _ rfl _ rfl _ _ _ _ x0 Tryd.underlying62 rfl (by kernel_rfl) ?_) | (refine wpList_store_seg rfl 62 _ _ rfl rfl g1 0 #[.string (B a.2.s), .bool a.2.bad] #[.string (B a.2.s), .bool a.2.bad] rfl rfl _ _ y0 (Nat.le_refl 2) (by kernel_rfl) (by kernel_rfl) (by kernel_rfl) ?_))
          refine bodyPost_ret (results_rt (p := 2) (a := 3) rfl _ _ _ _ #[.string (B a.2.s), .bool a.2.bad] (.int .i64 a.1) rfl rfl (Blk.row y0 _) rfl) rfl ⟨congrArg Ending.returned HV.out, below_row hb0 (by omega) _⟩
    · skip
      have HQ := Lib.hid (show absQ y = a from HQ0.out.symm)
      clear HQ0
      have HF := Lib.hid (show timQ X = ((if b = true then -(a.1) else a.1), a.2) by unfold timQ; rw [HM.out, HQ.out])
      clear HQ HM
      cases b with
      | true =>
        have HV := Lib.hid (show Value.tuple #[.agg #[.string (B a.2.s), .bool a.2.bad], .int .i64 (-a.1)] = .tuple #[rv (timQ X).2, .int .i64 (timQ X).1] by rw [HF.out]; rfl)
        clear HF
        go_wp2_with (first | (refine wpList_row_g rfl 62 _ rfl _ rfl _ _ _ _ x0 Tryd.underlying62 rfl (by kernel_rfl) ?_) | (refine wpList_store_seg rfl 62 _ _ rfl rfl g1 0 #[.string (B a.2.s), .bool a.2.bad] #[.string (B a.2.s), .bool a.2.bad] rfl rfl _ _ y0 (Nat.le_refl 2) (by kernel_rfl) (by kernel_rfl) (by kernel_rfl) ?_))
        refine bodyPost_ret (results_rt (p := 2) (a := 3) rfl _ _ _ _ #[.string (B a.2.s), .bool a.2.bad] (.int .i64 (-a.1)) rfl rfl (Blk.row y0 _) rfl) rfl ⟨congrArg Ending.returned HV.out, below_row hb0 (by omega) _⟩
      | false =>
        have HV := Lib.hid (show Value.tuple #[.agg #[.string (B a.2.s), .bool a.2.bad], .int .i64 a.1] = .tuple #[rv (timQ X).2, .int .i64 (timQ X).1] by rw [HF.out]; rfl)
        clear HF
        go_wp2_with (first | (refine wpList_row_g rfl 62 _ rfl _ rfl _ _ _ _ x0 Tryd.underlying62 rfl (by kernel_rfl) ?_) | (refine wpList_store_seg rfl 62 _ _ rfl rfl g1 0 #[.string (B a.2.s), .bool a.2.bad] #[.string (B a.2.s), .bool a.2.bad] rfl rfl _ _ y0 (Nat.le_refl 2) (by kernel_rfl) (by kernel_rfl) (by kernel_rfl) ?_))
        refine bodyPost_ret (results_rt (p := 2) (a := 3) rfl _ _ _ _ #[.string (B a.2.s), .bool a.2.bad] (.int .i64 a.1) rfl rfl (Blk.row y0 _) rfl) rfl ⟨congrArg Ending.returned HV.out, below_row hb0 (by omega) _⟩
end Go.Proofs.YtgdgkgeoigljcaaDoor.Fo

namespace Go.Proofs.YtgdgkgeoigljcaaDoor.Fo
open Go.ChangeShapes Go.WideShapes Go.ChangeAt Go.RowKit Go.Shelf
open Go.Proofs.YtgdgkgeoigljcaaDoor
open Go.Proofs.YtgdgkgeoigljcaaDoor.Wd
open Go.Proofs.YtgdgkgeoigljcaaDoor.Rec
open Go.Proofs.YtgdgkgeoigljcaaDoor.Ld
set_option linter.unusedVariables false
set_option linter.unusedSimpArgs false
theorem results_rr {fn : Func} {p q : Tmp} (h : fn.results = #[.cell p 62, .cell q 24]) (tmps : Array Value) (w : World) (g k : Nat) (t u : TypeId) (cs ds : Array Value)
    (hp : tmps.getD p undef = .pointer (some ⟨g, 0, none⟩)) (hq : tmps.getD q undef = .pointer (some ⟨k, 0, none⟩)) (hg : w.heap[g]? = some (.cells cs t (0, 0))) (hs : cs.size = 2) (hk : w.heap[k]? = some (.cells ds u (0, 0))) (hd : ds.size = 8) :
    (results fn tmps).run Tryd.prog w = .ok (.tuple #[.agg cs, .agg ds]) w := by
  have hp' : tmps[p]?.getD undef = .pointer (some ⟨g, 0, none⟩) := by simpa using hp
  have hq' : tmps[q]?.getD undef = .pointer (some ⟨k, 0, none⟩) := by simpa using hq
  have hi : (Tryd.prog.info? 62).map (·.size) = some cs.size := by rw [hs]; kernel_rfl
  have hj : (Tryd.prog.info? 24).map (·.size) = some ds.size := by rw [hd]; kernel_rfl
  have hl := run_loadVar_row w g t 62 cs (0, 0) _ hg Tryd.underlying62 rfl hi
  have hl2 := run_loadVar_row w k u 24 ds (0, 0) _ hk Tryd.underlying24 rfl hj
  simp [results, h, hp', hq', asAddr, hl, hl2]
theorem wrap_small {z : Int} (h : -100000000 ≤ z ∧ z ≤ 100000000) : IntKind.i64.wrap z = z := by simp [IntKind.wrap, IntKind.bits, IntKind.signed]; omega
theorem tdiv_bd (n : Int) (k : Nat) (h : -100000000 ≤ n ∧ n ≤ 100000000) : -100000000 ≤ n.tdiv k ∧ n.tdiv k ≤ 100000000 := by
  have h1 : (n.tdiv k).natAbs ≤ n.natAbs := by rw [Int.natAbs_tdiv]; exact Nat.div_le_self _ _
  omega
theorem ldR_sem2 (v : Value) : Instr.loadAt 62 v = ldSem 62 v := rfl
attribute [local go_sem ↓] ldS_sem ldR_sem2
attribute [local go_sem] ldSem_run
theorem sr_mk {w : World} {g k : Nat} {s : ByteArray} {bad : Bool} {a b c d e f i j : Int} (h : Blk w g 62 #[.string s, .bool bad]) (h2 : Blk w k 24 #[.int .u16 a, .int .u16 b, .int .u16 c, .int .u16 d, .int .u16 e, .int .u16 f, .int .u16 i, .int .u16 j]) :
    ldT 62 (.pointer (some ⟨g, 0, none⟩)) w = some #[.string s, .bool bad] ∧ ldT 24 (.pointer (some ⟨k, 0, none⟩)) w = some #[.int .u16 a, .int .u16 b, .int .u16 c, .int .u16 d, .int .u16 e, .int .u16 f, .int .u16 i, .int .u16 j] ∧ Blk w g 62 #[.string s, .bool bad] ∧ Blk w k 24 #[.int .u16 a, .int .u16 b, .int .u16 c, .int .u16 d, .int .u16 e, .int .u16 f, .int .u16 i, .int .u16 j] :=
  ⟨ldT_of (ld_seg (k := 0) h Tryd.underlying62 rfl (by kernel_rfl) (by kernel_rfl)), ldT_of (ld_seg (k := 0) h2 Tryd.underlying24 rfl (by kernel_rfl) (by kernel_rfl)), h, h2⟩
theorem sr_on {w : World} {g k p : Nat} {cs ds ns : Array Value} (h : ldT 62 (.pointer (some ⟨g, 0, none⟩)) w = some cs ∧ ldT 24 (.pointer (some ⟨k, 0, none⟩)) w = some ds ∧ Blk w g 62 cs ∧ Blk w k 24 ds) (h1 : g ≠ p) (h2 : k ≠ p)
    {s : ByteArray} {bad : Bool} {a b c d e f i j : Int} (hc : cs = #[.string s, .bool bad] := by rfl) (hd : ds = #[.int .u16 a, .int .u16 b, .int .u16 c, .int .u16 d, .int .u16 e, .int .u16 f, .int .u16 i, .int .u16 j] := by rfl) :
    ldT 62 (.pointer (some ⟨g, 0, none⟩)) (w.setRow p ns) = some cs ∧ ldT 24 (.pointer (some ⟨k, 0, none⟩)) (w.setRow p ns) = some ds ∧ Blk (w.setRow p ns) g 62 cs ∧ Blk (w.setRow p ns) k 24 ds := by
  subst hc hd
  exact sr_mk (Blk.rowFar h.2.2.1 h1 _) (Blk.rowFar h.2.2.2 h2 _)
set_option maxRecDepth 20000 in
set_option maxHeartbeats 12800000 in
theorem rstm_any (X : Rs) (w : World) (hX : X.s.length ≤ 100000) :
    Calls Tryd.prog 37 #[rv X] w fun e w' => e = .returned (.tuple #[rv (stQ X).2, .agg (sA (stQ X).1)]) ∧ Below w.heap.size w w' := by
  obtain ⟨g1, hg1⟩ : ∃ g1, g1 = w.heap.size + 1 := ⟨_, rfl⟩
  obtain ⟨g2, hg2⟩ : ∃ g2, g2 = w.heap.size + 1 + 1 := ⟨_, rfl⟩
  have x0 := ((Blk.new w 62 #[.string (B X.s), .bool X.bad]).alloc (.cells #[.string ⟨#[]⟩, .bool false] 62)).alloc (.cells #[.int .u16 0, .int .u16 0, .int .u16 0, .int .u16 0, .int .u16 0, .int .u16 0, .int .u16 0, .int .u16 0] 24)
  have y0 : Blk (((w.alloc (.cells #[.string (B X.s), .bool X.bad] 62)).alloc (.cells #[.string ⟨#[]⟩, .bool false] 62)).alloc (.cells #[.int .u16 0, .int .u16 0, .int .u16 0, .int .u16 0, .int .u16 0, .int .u16 0, .int .u16 0, .int .u16 0] 24)) g1 62 #[.string ⟨#[]⟩, .bool false] := by have := (blk_at' (w.alloc (.cells #[.string (B X.s), .bool X.bad] 62)) 62 #[.string ⟨#[]⟩, .bool false] (sz1 w (.cells #[.string (B X.s), .bool X.bad] 62) rfl)).alloc (.cells #[.int .u16 0, .int .u16 0, .int .u16 0, .int .u16 0, .int .u16 0, .int .u16 0, .int .u16 0, .int .u16 0] 24); rw [hg1]; exact this
  have z0 : Blk (((w.alloc (.cells #[.string (B X.s), .bool X.bad] 62)).alloc (.cells #[.string ⟨#[]⟩, .bool false] 62)).alloc (.cells #[.int .u16 0, .int .u16 0, .int .u16 0, .int .u16 0, .int .u16 0, .int .u16 0, .int .u16 0, .int .u16 0] 24)) g2 24 #[.int .u16 0, .int .u16 0, .int .u16 0, .int .u16 0, .int .u16 0, .int .u16 0, .int .u16 0, .int .u16 0] := by have := blk_at' ((w.alloc (.cells #[.string (B X.s), .bool X.bad] 62)).alloc (.cells #[.string ⟨#[]⟩, .bool false] 62)) 24 #[.int .u16 0, .int .u16 0, .int .u16 0, .int .u16 0, .int .u16 0, .int .u16 0, .int .u16 0, .int .u16 0] (sz1 _ (.cells #[.string ⟨#[]⟩, .bool false] 62) (sz1 w (.cells #[.string (B X.s), .bool X.bad] 62) rfl)); rw [hg2]; exact this
  have hb0 : Below w.heap.size w (((w.alloc (.cells #[.string (B X.s), .bool X.bad] 62)).alloc (.cells #[.string ⟨#[]⟩, .bool false] 62)).alloc (.cells #[.int .u16 0, .int .u16 0, .int .u16 0, .int .u16 0, .int .u16 0, .int .u16 0, .int .u16 0, .int .u16 0] 24)) := by
    have b1 := (Below.refl w.heap.size w).alloc (Nat.le_refl _) (.cells #[.string (B X.s), .bool X.bad] 62)
    have b2 := b1.alloc b1.size (.cells #[.string ⟨#[]⟩, .bool false] 62)
    exact b2.alloc b2.size (.cells #[.int .u16 0, .int .u16 0, .int .u16 0, .int .u16 0, .int .u16 0, .int .u16 0, .int .u16 0, .int .u16 0] 24)
  go_enter Tryd.func37, Tryd.ntmps37
  go_upto_region 1 with fail
  generalize ((w.alloc (.cells #[.string (B X.s), .bool X.bad] 62)).alloc (.cells #[.string ⟨#[]⟩, .bool false] 62)).alloc (.cells #[.int .u16 0, .int .u16 0, .int .u16 0, .int .u16 0, .int .u16 0, .int .u16 0, .int .u16 0, .int .u16 0] 24) = W at *
  rw [← hg2]
  rw [← hg1]
  have hz : w.heap.size < g1 := by omega
  have hz2 : g1 < g2 := by omega
  clear hg1 hg2
  go_upto_region 2 with fail
  have a0 := Blk.new W 94 #[.int .i64 0, .int .i64 0, .int .i64 0]
  replace x0 := x0.alloc (.cells #[.int .i64 0, .int .i64 0, .int .i64 0] 94)
  replace y0 := y0.alloc (.cells #[.int .i64 0, .int .i64 0, .int .i64 0] 94)
  replace z0 := z0.alloc (.cells #[.int .i64 0, .int .i64 0, .int .i64 0] 94)
  have hg3 : g2 < W.heap.size := by have := z0.lt; rw [sz1 _ _ rfl] at this; have q : g2 ≠ W.heap.size := Wd.Blk.ne_ z0 a0 (by decide); omega
  replace hb0 := hb0.alloc hb0.size (.cells #[.int .i64 0, .int .i64 0, .int .i64 0] 94)
  generalize W.alloc (.cells #[.int .i64 0, .int .i64 0, .int .i64 0] 94) = V at *
  generalize W.heap.size = g3 at *
  have lX := hX
  obtain ⟨b1, y1, HM1⟩ : ∃ b y, mayR 77 X = (b, y) := ⟨_, _, rfl⟩
  obtain ⟨n1, x1, HN1⟩ : ∃ n z, numR 4 y1 = (n, z) := ⟨_, _, rfl⟩
  have ly1 := may_len 77 X; rw [HM1] at ly1; replace ly1 : y1.s.length ≤ 100000 := Nat.le_trans ly1 lX
  have lx1 := numr_len 4 y1; have d1 := numq_le y1; rw [HN1] at lx1 d1; replace lx1 : x1.s.length ≤ 100000 := Nat.le_trans lx1 ly1; replace d1 : n1 ≤ 9999 := d1
  have S1 := Lib.hid (fun W => rsgn_any 77 X W lX); have R1 := Lib.hid (fun W => rnm_any y1 W ly1); rw [HM1] at S1; rw [HN1] at R1
  obtain ⟨b2, y2, HM2⟩ : ∃ b y, mayR 46 x1 = (b, y) := ⟨_, _, rfl⟩
  obtain ⟨n2, x2, HN2⟩ : ∃ n z, numR 4 y2 = (n, z) := ⟨_, _, rfl⟩
  have ly2 := may_len 46 x1; rw [HM2] at ly2; replace ly2 : y2.s.length ≤ 100000 := Nat.le_trans ly2 lx1
  have lx2 := numr_len 4 y2; have d2 := numq_le y2; rw [HN2] at lx2 d2; replace lx2 : x2.s.length ≤ 100000 := Nat.le_trans lx2 ly2; replace d2 : n2 ≤ 9999 := d2
  have S2 := Lib.hid (fun W => rsgn_any 46 x1 W lx1); have R2 := Lib.hid (fun W => rnm_any y2 W ly2); rw [HM2] at S2; rw [HN2] at R2
  obtain ⟨b3, y3, HM3⟩ : ∃ b y, mayR 46 x2 = (b, y) := ⟨_, _, rfl⟩
  obtain ⟨n3, x3, HN3⟩ : ∃ n z, numR 4 y3 = (n, z) := ⟨_, _, rfl⟩
  have ly3 := may_len 46 x2; rw [HM3] at ly3; replace ly3 : y3.s.length ≤ 100000 := Nat.le_trans ly3 lx2
  have lx3 := numr_len 4 y3; have d3 := numq_le y3; rw [HN3] at lx3 d3; replace lx3 : x3.s.length ≤ 100000 := Nat.le_trans lx3 ly3; replace d3 : n3 ≤ 9999 := d3
  have S3 := Lib.hid (fun W => rsgn_any 46 x2 W lx2); have R3 := Lib.hid (fun W => rnm_any y3 W ly3); rw [HM3] at S3; rw [HN3] at R3
  have HST := Lib.hid (show stQ X = if (mayR 47 x3).1 = true then (⟨0, (n1 : Int), (n3 : Int), (n2 : Int), u16 ((timQ (mayR 47 x3).2).1.tdiv 3600), u16 (((timQ (mayR 47 x3).2).1.tdiv 60).tmod 60), u16 ((timQ (mayR 47 x3).2).1.tmod 60), 0⟩, (timQ (mayR 47 x3).2).2) else (⟨0, (n1 : Int), (n3 : Int), (n2 : Int), 2, 0, 0, 0⟩, x3) by unfold stQ; dsimp only; rw [HM1]; dsimp only; rw [HN1]; dsimp only; rw [HM2]; dsimp only; rw [HN2]; dsimp only; rw [HM3]; dsimp only; rw [HN3])
  clear HM1 HM2 HM3 HN1 HN2 HN3 lX ly1 lx1 ly2 lx2 ly3
  have HS4 := Lib.hid (fun W => rsgn_any 47 x3 W lx3)
  go_wp2_with fail
  go_loopw [11] (fun iv wr => ∃ (k : Nat) (x : Rs) (Q : Array Value), iv = .int .i64 (k : Int) ∧ ((k = 0 ∧ X = x ∧ Q = #[.int .i64 0, .int .i64 0, .int .i64 0]) ∨ (k = 1 ∧ x1 = x ∧ Q = #[.int .i64 (n1 : Int), .int .i64 0, .int .i64 0]) ∨ (k = 2 ∧ x2 = x ∧ Q = #[.int .i64 (n1 : Int), .int .i64 (n2 : Int), .int .i64 0]) ∨ (k = 3 ∧ x3 = x ∧ Q = #[.int .i64 (n1 : Int), .int .i64 (n2 : Int), .int .i64 (n3 : Int)])) ∧ Blk wr w.heap.size 62 #[.string (B x.s), .bool x.bad] ∧ Blk wr g1 62 #[.string ⟨#[]⟩, .bool false] ∧ Blk wr g2 24 #[.int .u16 0, .int .u16 0, .int .u16 0, .int .u16 0, .int .u16 0, .int .u16 0, .int .u16 0, .int .u16 0] ∧ Blk wr g3 94 Q ∧ Below w.heap.size w wr) (fun iv _ => 3 - (intOf iv).toNat)
  case atStart => exact ⟨0, X, _, rfl, .inl ⟨rfl, rfl, rfl⟩, x0, y0, z0, a0, hb0⟩
  case round =>
    clear x0 y0 z0 a0 hb0
    obtain ⟨k, x, Q, rfl, hst, x0, y0, z0, a0, hb0⟩ := hrel
    rcases hst with ⟨rfl, rfl, rfl⟩ | ⟨rfl, rfl, rfl⟩ | ⟨rfl, rfl, rfl⟩ | ⟨rfl, rfl, rfl⟩
    · skip
      have c1 := S1.out
      clear HS4 S2 R2 S3 R3 S1
      go_wp2_with (refine wpList_row_g rfl 62 _ rfl _ rfl _ _ _ _ x0 Tryd.underlying62 rfl (by kernel_rfl) ?_)
      refine (c1 _).mono ?_; rintro e W1 ⟨rfl, hb⟩
      replace x0 := x0.below hb x0.lt
      replace y0 := y0.below hb y0.lt
      replace z0 := z0.below hb z0.lt
      replace a0 := a0.below hb a0.lt
      replace hb0 := hb0.trans (hb.mono hb0.size); clear hb
      clear c1
      go_upto_region 9 with (refine wpList_store_seg rfl 62 _ _ rfl rfl w.heap.size 0 #[.string (B y1.s), .bool y1.bad] #[.string (B y1.s), .bool y1.bad] rfl rfl _ _ x0 (Nat.le_refl 2) (by kernel_rfl) (by kernel_rfl) (by kernel_rfl) ?_)
      replace y0 := Blk.rowFar (g' := w.heap.size) y0 (by omega) #[.string (B y1.s), .bool y1.bad]
      replace z0 := Blk.rowFar (g' := w.heap.size) z0 (by omega) #[.string (B y1.s), .bool y1.bad]
      replace a0 := Blk.rowFar (g' := w.heap.size) a0 (by omega) #[.string (B y1.s), .bool y1.bad]
      replace x0 := Blk.row (g := w.heap.size) x0 #[.string (B y1.s), .bool y1.bad]
      replace hb0 := below_row hb0 (show w.heap.size ≤ w.heap.size by omega) #[.string (B y1.s), .bool y1.bad]
      generalize World.setRow _ w.heap.size #[.string (B y1.s), .bool y1.bad] = W2 at *
      have c2 := R1.out; clear R1
      go_wp2_with (refine wpList_row_g rfl 62 _ rfl _ rfl _ _ _ _ x0 Tryd.underlying62 rfl (by kernel_rfl) ?_)
      refine (c2 _).mono ?_; rintro e W3 ⟨rfl, hb⟩
      replace x0 := x0.below hb x0.lt
      replace y0 := y0.below hb y0.lt
      replace z0 := z0.below hb z0.lt
      replace a0 := a0.below hb a0.lt
      replace hb0 := hb0.trans (hb.mono hb0.size); clear hb
      clear c2
      have aS := Blk.rowFar (g' := w.heap.size) a0 (by omega) #[.string (B x1.s), .bool x1.bad]
      have cS : (W3.setRow w.heap.size #[.string (B x1.s), .bool x1.bad]).cell? ⟨g3, 0, none⟩ = some (.int .i64 0) := aS.cell 0; have fS := aS.frozen 0
      go_upto_region 10 with (refine wpList_store_seg rfl 62 _ _ rfl rfl w.heap.size 0 #[.string (B x1.s), .bool x1.bad] #[.string (B x1.s), .bool x1.bad] rfl rfl _ _ x0 (Nat.le_refl 2) (by kernel_rfl) (by kernel_rfl) (by kernel_rfl) ?_)
      have a9 : Blk ((W3.setRow w.heap.size #[.string (B x1.s), .bool x1.bad]).setCell ⟨g3, 0, none⟩ (.int .i64 (n1 : Int))) g3 94 #[.int .i64 (n1 : Int), .int .i64 0, .int .i64 0] := aS.set_ 0 (.int .i64 (n1 : Int))
      have x9 : Blk ((W3.setRow w.heap.size #[.string (B x1.s), .bool x1.bad]).setCell ⟨g3, 0, none⟩ (.int .i64 (n1 : Int))) w.heap.size 62 #[.string (B x1.s), .bool x1.bad] := (Blk.row (g := w.heap.size) x0 #[.string (B x1.s), .bool x1.bad]).far (p := ⟨g3, 0, none⟩) (fun e => by have e2 : w.heap.size = g3 := e; omega) _
      replace y0 : Blk ((W3.setRow w.heap.size #[.string (B x1.s), .bool x1.bad]).setCell ⟨g3, 0, none⟩ (.int .i64 (n1 : Int))) g1 _ _ := (Blk.rowFar (g' := w.heap.size) y0 (by omega) #[.string (B x1.s), .bool x1.bad]).far (p := ⟨g3, 0, none⟩) (fun e => by have e2 : g1 = g3 := e; omega) _
      replace z0 : Blk ((W3.setRow w.heap.size #[.string (B x1.s), .bool x1.bad]).setCell ⟨g3, 0, none⟩ (.int .i64 (n1 : Int))) g2 _ _ := (Blk.rowFar (g' := w.heap.size) z0 (by omega) #[.string (B x1.s), .bool x1.bad]).far (p := ⟨g3, 0, none⟩) (fun e => by have e2 : g2 = g3 := e; omega) _
      replace hb0 : Below w.heap.size w ((W3.setRow w.heap.size #[.string (B x1.s), .bool x1.bad]).setCell ⟨g3, 0, none⟩ (.int .i64 (n1 : Int))) := (below_row hb0 (Nat.le_refl _) #[.string (B x1.s), .bool x1.bad]).setCell (show w.heap.size ≤ g3 by omega) _
      clear aS cS fS a0 x0
      generalize ((W3.setRow w.heap.size #[.string (B x1.s), .bool x1.bad]).setCell ⟨g3, 0, none⟩ (.int .i64 (n1 : Int))) = U at *
      go_wp2_with fail
      go_roundw
      case rel => exact ⟨1, x1, _, by go_num, .inr (.inl ⟨rfl, rfl, rfl⟩), x9, y0, z0, a9, hb0⟩
      case measure => simp [intOf]
    · skip
      have c1 := S2.out
      clear HS4 S1 R1 S3 R3 S2
      go_wp2_with (refine wpList_row_g rfl 62 _ rfl _ rfl _ _ _ _ x0 Tryd.underlying62 rfl (by kernel_rfl) ?_)
      refine (c1 _).mono ?_; rintro e W1 ⟨rfl, hb⟩
      replace x0 := x0.below hb x0.lt
      replace y0 := y0.below hb y0.lt
      replace z0 := z0.below hb z0.lt
      replace a0 := a0.below hb a0.lt
      replace hb0 := hb0.trans (hb.mono hb0.size); clear hb
      clear c1
      go_upto_region 9 with (refine wpList_store_seg rfl 62 _ _ rfl rfl w.heap.size 0 #[.string (B y2.s), .bool y2.bad] #[.string (B y2.s), .bool y2.bad] rfl rfl _ _ x0 (Nat.le_refl 2) (by kernel_rfl) (by kernel_rfl) (by kernel_rfl) ?_)
      replace y0 := Blk.rowFar (g' := w.heap.size) y0 (by omega) #[.string (B y2.s), .bool y2.bad]
      replace z0 := Blk.rowFar (g' := w.heap.size) z0 (by omega) #[.string (B y2.s), .bool y2.bad]
      replace a0 := Blk.rowFar (g' := w.heap.size) a0 (by omega) #[.string (B y2.s), .bool y2.bad]
      replace x0 := Blk.row (g := w.heap.size) x0 #[.string (B y2.s), .bool y2.bad]
      replace hb0 := below_row hb0 (show w.heap.size ≤ w.heap.size by omega) #[.string (B y2.s), .bool y2.bad]
      generalize World.setRow _ w.heap.size #[.string (B y2.s), .bool y2.bad] = W2 at *
      have c2 := R2.out; clear R2
      go_wp2_with (refine wpList_row_g rfl 62 _ rfl _ rfl _ _ _ _ x0 Tryd.underlying62 rfl (by kernel_rfl) ?_)
      refine (c2 _).mono ?_; rintro e W3 ⟨rfl, hb⟩
      replace x0 := x0.below hb x0.lt
      replace y0 := y0.below hb y0.lt
      replace z0 := z0.below hb z0.lt
      replace a0 := a0.below hb a0.lt
      replace hb0 := hb0.trans (hb.mono hb0.size); clear hb
      clear c2
      have aS := Blk.rowFar (g' := w.heap.size) a0 (by omega) #[.string (B x2.s), .bool x2.bad]
      have cS : (W3.setRow w.heap.size #[.string (B x2.s), .bool x2.bad]).cell? ⟨g3, 1, none⟩ = some (.int .i64 0) := aS.cell 1; have fS := aS.frozen 1
      go_upto_region 10 with (refine wpList_store_seg rfl 62 _ _ rfl rfl w.heap.size 0 #[.string (B x2.s), .bool x2.bad] #[.string (B x2.s), .bool x2.bad] rfl rfl _ _ x0 (Nat.le_refl 2) (by kernel_rfl) (by kernel_rfl) (by kernel_rfl) ?_)
      have a9 : Blk ((W3.setRow w.heap.size #[.string (B x2.s), .bool x2.bad]).setCell ⟨g3, 1, none⟩ (.int .i64 (n2 : Int))) g3 94 #[.int .i64 (n1 : Int), .int .i64 (n2 : Int), .int .i64 0] := aS.set_ 1 (.int .i64 (n2 : Int))
      have x9 : Blk ((W3.setRow w.heap.size #[.string (B x2.s), .bool x2.bad]).setCell ⟨g3, 1, none⟩ (.int .i64 (n2 : Int))) w.heap.size 62 #[.string (B x2.s), .bool x2.bad] := (Blk.row (g := w.heap.size) x0 #[.string (B x2.s), .bool x2.bad]).far (p := ⟨g3, 1, none⟩) (fun e => by have e2 : w.heap.size = g3 := e; omega) _
      replace y0 : Blk ((W3.setRow w.heap.size #[.string (B x2.s), .bool x2.bad]).setCell ⟨g3, 1, none⟩ (.int .i64 (n2 : Int))) g1 _ _ := (Blk.rowFar (g' := w.heap.size) y0 (by omega) #[.string (B x2.s), .bool x2.bad]).far (p := ⟨g3, 1, none⟩) (fun e => by have e2 : g1 = g3 := e; omega) _
      replace z0 : Blk ((W3.setRow w.heap.size #[.string (B x2.s), .bool x2.bad]).setCell ⟨g3, 1, none⟩ (.int .i64 (n2 : Int))) g2 _ _ := (Blk.rowFar (g' := w.heap.size) z0 (by omega) #[.string (B x2.s), .bool x2.bad]).far (p := ⟨g3, 1, none⟩) (fun e => by have e2 : g2 = g3 := e; omega) _
      replace hb0 : Below w.heap.size w ((W3.setRow w.heap.size #[.string (B x2.s), .bool x2.bad]).setCell ⟨g3, 1, none⟩ (.int .i64 (n2 : Int))) := (below_row hb0 (Nat.le_refl _) #[.string (B x2.s), .bool x2.bad]).setCell (show w.heap.size ≤ g3 by omega) _
      clear aS cS fS a0 x0
      generalize ((W3.setRow w.heap.size #[.string (B x2.s), .bool x2.bad]).setCell ⟨g3, 1, none⟩ (.int .i64 (n2 : Int))) = U at *
      go_wp2_with fail
      go_roundw
      case rel => exact ⟨2, x2, _, by go_num, .inr (.inr (.inl ⟨rfl, rfl, rfl⟩)), x9, y0, z0, a9, hb0⟩
      case measure => simp [intOf]
    · skip
      have c1 := S3.out
      clear HS4 S1 R1 S2 R2 S3
      go_wp2_with (refine wpList_row_g rfl 62 _ rfl _ rfl _ _ _ _ x0 Tryd.underlying62 rfl (by kernel_rfl) ?_)
      refine (c1 _).mono ?_; rintro e W1 ⟨rfl, hb⟩
      replace x0 := x0.below hb x0.lt
      replace y0 := y0.below hb y0.lt
      replace z0 := z0.below hb z0.lt
      replace a0 := a0.below hb a0.lt
      replace hb0 := hb0.trans (hb.mono hb0.size); clear hb
      clear c1
      go_upto_region 9 with (refine wpList_store_seg rfl 62 _ _ rfl rfl w.heap.size 0 #[.string (B y3.s), .bool y3.bad] #[.string (B y3.s), .bool y3.bad] rfl rfl _ _ x0 (Nat.le_refl 2) (by kernel_rfl) (by kernel_rfl) (by kernel_rfl) ?_)
      replace y0 := Blk.rowFar (g' := w.heap.size) y0 (by omega) #[.string (B y3.s), .bool y3.bad]
      replace z0 := Blk.rowFar (g' := w.heap.size) z0 (by omega) #[.string (B y3.s), .bool y3.bad]
      replace a0 := Blk.rowFar (g' := w.heap.size) a0 (by omega) #[.string (B y3.s), .bool y3.bad]
      replace x0 := Blk.row (g := w.heap.size) x0 #[.string (B y3.s), .bool y3.bad]
      replace hb0 := below_row hb0 (show w.heap.size ≤ w.heap.size by omega) #[.string (B y3.s), .bool y3.bad]
      generalize World.setRow _ w.heap.size #[.string (B y3.s), .bool y3.bad] = W2 at *
      have c2 := R3.out; clear R3
      go_wp2_with (refine wpList_row_g rfl 62 _ rfl _ rfl _ _ _ _ x0 Tryd.underlying62 rfl (by kernel_rfl) ?_)
      refine (c2 _).mono ?_; rintro e W3 ⟨rfl, hb⟩
      replace x0 := x0.below hb x0.lt
      replace y0 := y0.below hb y0.lt
      replace z0 := z0.below hb z0.lt
      replace a0 := a0.below hb a0.lt
      replace hb0 := hb0.trans (hb.mono hb0.size); clear hb
      clear c2
      have aS := Blk.rowFar (g' := w.heap.size) a0 (by omega) #[.string (B x3.s), .bool x3.bad]
      have cS : (W3.setRow w.heap.size #[.string (B x3.s), .bool x3.bad]).cell? ⟨g3, 2, none⟩ = some (.int .i64 0) := aS.cell 2; have fS := aS.frozen 2
      go_upto_region 10 with (refine wpList_store_seg rfl 62 _ _ rfl rfl w.heap.size 0 #[.string (B x3.s), .bool x3.bad] #[.string (B x3.s), .bool x3.bad] rfl rfl _ _ x0 (Nat.le_refl 2) (by kernel_rfl) (by kernel_rfl) (by kernel_rfl) ?_)
      have a9 : Blk ((W3.setRow w.heap.size #[.string (B x3.s), .bool x3.bad]).setCell ⟨g3, 2, none⟩ (.int .i64 (n3 : Int))) g3 94 #[.int .i64 (n1 : Int), .int .i64 (n2 : Int), .int .i64 (n3 : Int)] := aS.set_ 2 (.int .i64 (n3 : Int))
      have x9 : Blk ((W3.setRow w.heap.size #[.string (B x3.s), .bool x3.bad]).setCell ⟨g3, 2, none⟩ (.int .i64 (n3 : Int))) w.heap.size 62 #[.string (B x3.s), .bool x3.bad] := (Blk.row (g := w.heap.size) x0 #[.string (B x3.s), .bool x3.bad]).far (p := ⟨g3, 2, none⟩) (fun e => by have e2 : w.heap.size = g3 := e; omega) _
      replace y0 : Blk ((W3.setRow w.heap.size #[.string (B x3.s), .bool x3.bad]).setCell ⟨g3, 2, none⟩ (.int .i64 (n3 : Int))) g1 _ _ := (Blk.rowFar (g' := w.heap.size) y0 (by omega) #[.string (B x3.s), .bool x3.bad]).far (p := ⟨g3, 2, none⟩) (fun e => by have e2 : g1 = g3 := e; omega) _
      replace z0 : Blk ((W3.setRow w.heap.size #[.string (B x3.s), .bool x3.bad]).setCell ⟨g3, 2, none⟩ (.int .i64 (n3 : Int))) g2 _ _ := (Blk.rowFar (g' := w.heap.size) z0 (by omega) #[.string (B x3.s), .bool x3.bad]).far (p := ⟨g3, 2, none⟩) (fun e => by have e2 : g2 = g3 := e; omega) _
      replace hb0 : Below w.heap.size w ((W3.setRow w.heap.size #[.string (B x3.s), .bool x3.bad]).setCell ⟨g3, 2, none⟩ (.int .i64 (n3 : Int))) := (below_row hb0 (Nat.le_refl _) #[.string (B x3.s), .bool x3.bad]).setCell (show w.heap.size ≤ g3 by omega) _
      clear aS cS fS a0 x0
      generalize ((W3.setRow w.heap.size #[.string (B x3.s), .bool x3.bad]).setCell ⟨g3, 2, none⟩ (.int .i64 (n3 : Int))) = U at *
      go_wp2_with fail
      go_roundw
      case rel => exact ⟨3, x3, _, by go_num, .inr (.inr (.inr ⟨rfl, rfl, rfl⟩)), x9, y0, z0, a9, hb0⟩
      case measure => simp [intOf]
    · skip
      clear S1 R1 S2 R2 S3 R3
      obtain ⟨b, v, HM4⟩ : ∃ b v, mayR 47 x3 = (b, v) := ⟨_, _, rfl⟩
      have c4 := HS4.out; clear HS4; have lv := may_len 47 x3; rw [HM4] at c4 lv; replace lv : v.s.length ≤ 100000 := Nat.le_trans lv lx3
      have HQ := HST.out; clear HST; rw [HM4] at HQ; dsimp only at HQ; clear HM4
      have e0 := a0.cell 0; have e1 := a0.cell 1; have e2 := a0.cell 2
      have ca1 : wr.cell? ⟨g3, 0, none⟩ = some (.int .i64 (n1 : Int)) := a0.cell 0; have wu1 : IntKind.u16.wrap (n1 : Int) = (n1 : Int) := by simp [IntKind.wrap, IntKind.bits, IntKind.signed]; omega
      have ca2 : wr.cell? ⟨g3, 1, none⟩ = some (.int .i64 (n2 : Int)) := a0.cell 1; have wu2 : IntKind.u16.wrap (n2 : Int) = (n2 : Int) := by simp [IntKind.wrap, IntKind.bits, IntKind.signed]; omega
      have ca3 : wr.cell? ⟨g3, 2, none⟩ = some (.int .i64 (n3 : Int)) := a0.cell 2; have wu3 : IntKind.u16.wrap (n3 : Int) = (n3 : Int) := by simp [IntKind.wrap, IntKind.bits, IntKind.signed]; omega
      clear e0 e1 e2
      go_upto_region 11 with fail
      go_upto_region 12 with (refine wpList_store_new rfl 24 _ _ rfl rfl wr.heap.size #[.int .u16 0, .int .u16 (n1 : Int), .int .u16 (n3 : Int), .int .u16 (n2 : Int), .int .u16 2, .int .u16 0, .int .u16 0, .int .u16 0] rfl rfl _ #[.int .u16 0, .int .u16 0, .int .u16 0, .int .u16 0, .int .u16 0, .int .u16 0, .int .u16 0, .int .u16 0] wr rfl rfl rfl (by kernel_rfl) (by kernel_rfl) ?_)
      have sx := Blk.new wr 24 #[.int .u16 0, .int .u16 (n1 : Int), .int .u16 (n3 : Int), .int .u16 (n2 : Int), .int .u16 2, .int .u16 0, .int .u16 0, .int .u16 0]
      replace x0 := x0.alloc (.cells #[.int .u16 0, .int .u16 (n1 : Int), .int .u16 (n3 : Int), .int .u16 (n2 : Int), .int .u16 2, .int .u16 0, .int .u16 0, .int .u16 0] 24)
      replace y0 := y0.alloc (.cells #[.int .u16 0, .int .u16 (n1 : Int), .int .u16 (n3 : Int), .int .u16 (n2 : Int), .int .u16 2, .int .u16 0, .int .u16 0, .int .u16 0] 24)
      replace z0 := z0.alloc (.cells #[.int .u16 0, .int .u16 (n1 : Int), .int .u16 (n3 : Int), .int .u16 (n2 : Int), .int .u16 2, .int .u16 0, .int .u16 0, .int .u16 0] 24)
      have hg4 : g3 < wr.heap.size := a0.lt
      replace hb0 := hb0.alloc hb0.size (.cells #[.int .u16 0, .int .u16 (n1 : Int), .int .u16 (n3 : Int), .int .u16 (n2 : Int), .int .u16 2, .int .u16 0, .int .u16 0, .int .u16 0] 24)
      clear a0 ca1 ca2 ca3 wu1 wu2 wu3
      generalize wr.alloc (.cells #[.int .u16 0, .int .u16 (n1 : Int), .int .u16 (n3 : Int), .int .u16 (n2 : Int), .int .u16 2, .int .u16 0, .int .u16 0, .int .u16 0] 24) = U at *
      generalize wr.heap.size = g4 at *
      go_wp2_with (refine wpList_row_g rfl 62 _ rfl _ rfl _ _ _ _ x0 Tryd.underlying62 rfl (by kernel_rfl) ?_)
      refine (c4 _).mono ?_; rintro e W1 ⟨rfl, hb⟩
      replace x0 := x0.below hb x0.lt
      replace y0 := y0.below hb y0.lt
      replace z0 := z0.below hb z0.lt
      replace sx := sx.below hb sx.lt
      replace hb0 := hb0.trans (hb.mono hb0.size); clear hb
      clear c4
      go_upto_region 13 with (refine wpList_store_new rfl 62 _ _ rfl rfl W1.heap.size #[.string (B v.s), .bool v.bad] rfl rfl _ #[.string ⟨#[]⟩, .bool false] W1 rfl rfl rfl (by kernel_rfl) (by kernel_rfl) ?_)
      have xx := Blk.new W1 62 #[.string (B v.s), .bool v.bad]
      replace x0 := x0.alloc (.cells #[.string (B v.s), .bool v.bad] 62)
      replace y0 := y0.alloc (.cells #[.string (B v.s), .bool v.bad] 62)
      replace z0 := z0.alloc (.cells #[.string (B v.s), .bool v.bad] 62)
      replace sx := sx.alloc (.cells #[.string (B v.s), .bool v.bad] 62)
      have hg5 : g4 < W1.heap.size := by have := sx.lt; rw [sz1 _ _ rfl] at this; have q : g4 ≠ W1.heap.size := Wd.Blk.ne_ sx xx (by decide); omega
      replace hb0 := hb0.alloc hb0.size (.cells #[.string (B v.s), .bool v.bad] 62)
      generalize W1.alloc (.cells #[.string (B v.s), .bool v.bad] 62) = U2 at *
      generalize W1.heap.size = g5 at *
      cases b with
      | true =>
        rw [if_pos rfl] at HQ
        obtain ⟨n4, x4, HT⟩ : ∃ n x, timQ v = (n, x) := ⟨_, _, rfl⟩
        have tb := timq_bd v; have c5 := rtim_any v U2 lv; rw [HT] at c5 HQ tb; dsimp only at HQ tb; clear HT
        go_wp2_with (refine wpList_row_g rfl 62 _ rfl _ rfl _ _ _ _ xx Tryd.underlying62 rfl (by kernel_rfl) ?_)
        refine (c5).mono ?_; rintro e W2 ⟨rfl, hb⟩
        replace x0 := x0.below hb x0.lt
        replace y0 := y0.below hb y0.lt
        replace z0 := z0.below hb z0.lt
        replace sx := sx.below hb sx.lt
        replace xx := xx.below hb xx.lt
        replace hb0 := hb0.trans (hb.mono hb0.size); clear hb
        clear c5
        go_upto_region 16 with (refine wpList_store_seg rfl 62 _ _ rfl rfl w.heap.size 0 #[.string (B x4.s), .bool x4.bad] #[.string (B x4.s), .bool x4.bad] rfl rfl _ _ x0 (Nat.le_refl 2) (by kernel_rfl) (by kernel_rfl) (by kernel_rfl) ?_)
        replace y0 := Blk.rowFar (g' := w.heap.size) y0 (by omega) #[.string (B x4.s), .bool x4.bad]
        replace z0 := Blk.rowFar (g' := w.heap.size) z0 (by omega) #[.string (B x4.s), .bool x4.bad]
        replace sx := Blk.rowFar (g' := w.heap.size) sx (by omega) #[.string (B x4.s), .bool x4.bad]
        replace xx := Blk.rowFar (g' := w.heap.size) xx (by omega) #[.string (B x4.s), .bool x4.bad]
        replace x0 := Blk.row (g := w.heap.size) x0 #[.string (B x4.s), .bool x4.bad]
        replace hb0 := below_row hb0 (show w.heap.size ≤ w.heap.size by omega) #[.string (B x4.s), .bool x4.bad]
        generalize World.setRow _ w.heap.size #[.string (B x4.s), .bool x4.bad] = W3 at *
        have w1 : IntKind.i64.wrap (n4.tdiv 3600) = n4.tdiv 3600 := wrap_small (tdiv_bd n4 3600 tb)
        have w2 : IntKind.i64.wrap (n4.tdiv 60) = n4.tdiv 60 := wrap_small (tdiv_bd n4 60 tb)
        obtain ⟨h4, HH⟩ : ∃ h, Fo.u16 (n4.tdiv 3600) = h := ⟨_, rfl⟩
        obtain ⟨i4, HI⟩ : ∃ h, Fo.u16 ((n4.tdiv 60).tmod 60) = h := ⟨_, rfl⟩
        obtain ⟨s4, HS⟩ : ∃ h, Fo.u16 (n4.tmod 60) = h := ⟨_, rfl⟩
        rw [HH, HI, HS] at HQ
        unfold Fo.u16 at HH HI HS
        have HV := Lib.hid (show Value.tuple #[.agg #[.string (B x4.s), .bool x4.bad], .agg #[.int .u16 0, .int .u16 (n1 : Int), .int .u16 (n3 : Int), .int .u16 (n2 : Int), .int .u16 h4, .int .u16 i4, .int .u16 s4, .int .u16 0]] = .tuple #[rv (stQ X).2, .agg (sA (stQ X).1)] by rw [HQ])
        clear HQ
        have c4 : W3.cell? ⟨g4, 4, none⟩ = some (.int .u16 2) := sx.cell 4; have f4 := sx.frozen 4
        have s5 := sx.set_ 4 (.int .u16 h4)
        have c5 : (W3.setCell ⟨g4, 4, none⟩ (.int .u16 h4)).cell? ⟨g4, 5, none⟩ = some (.int .u16 0) := s5.cell 5; have f5 := s5.frozen 5
        have s6 := s5.set_ 5 (.int .u16 i4)
        have c6 : ((W3.setCell ⟨g4, 4, none⟩ (.int .u16 h4)).setCell ⟨g4, 5, none⟩ (.int .u16 i4)).cell? ⟨g4, 6, none⟩ = some (.int .u16 0) := s6.cell 6; have f6 := s6.frozen 6
        have s7 : Blk (((W3.setCell ⟨g4, 4, none⟩ (.int .u16 h4)).setCell ⟨g4, 5, none⟩ (.int .u16 i4)).setCell ⟨g4, 6, none⟩ (.int .u16 s4)) g4 24 #[.int .u16 0, .int .u16 (n1 : Int), .int .u16 (n3 : Int), .int .u16 (n2 : Int), .int .u16 h4, .int .u16 i4, .int .u16 s4, .int .u16 0] := s6.set_ 6 (.int .u16 s4)
        go_upto_region 17 with fail
        replace x0 := (((x0.far (p := ⟨g4, 4, none⟩) (fun e => by have e2 : w.heap.size = g4 := e; omega) (.int .u16 h4)).far (p := ⟨g4, 5, none⟩) (fun e => by have e2 : w.heap.size = g4 := e; omega) (.int .u16 i4)).far (p := ⟨g4, 6, none⟩) (fun e => by have e2 : w.heap.size = g4 := e; omega) (.int .u16 s4))
        replace y0 := (((y0.far (p := ⟨g4, 4, none⟩) (fun e => by have e2 : g1 = g4 := e; omega) (.int .u16 h4)).far (p := ⟨g4, 5, none⟩) (fun e => by have e2 : g1 = g4 := e; omega) (.int .u16 i4)).far (p := ⟨g4, 6, none⟩) (fun e => by have e2 : g1 = g4 := e; omega) (.int .u16 s4))
        replace z0 := (((z0.far (p := ⟨g4, 4, none⟩) (fun e => by have e2 : g2 = g4 := e; omega) (.int .u16 h4)).far (p := ⟨g4, 5, none⟩) (fun e => by have e2 : g2 = g4 := e; omega) (.int .u16 i4)).far (p := ⟨g4, 6, none⟩) (fun e => by have e2 : g2 = g4 := e; omega) (.int .u16 s4))
        replace hb0 := (((hb0.setCell (p := ⟨g4, 4, none⟩) (show w.heap.size ≤ g4 by omega) (.int .u16 h4)).setCell (p := ⟨g4, 5, none⟩) (show w.heap.size ≤ g4 by omega) (.int .u16 i4)).setCell (p := ⟨g4, 6, none⟩) (show w.heap.size ≤ g4 by omega) (.int .u16 s4))
        clear sx s5 s6 c4 c5 c6 f4 f5 f6; have sx := s7; clear s7 xx HH HI HS w1 w2 tb
        generalize (((W3.setCell ⟨g4, 4, none⟩ (.int .u16 h4)).setCell ⟨g4, 5, none⟩ (.int .u16 i4)).setCell ⟨g4, 6, none⟩ (.int .u16 s4)) = U3 at *
        go_upto_region 17 with fail
        have y9 : Blk U3.drew g1 62 #[.string ⟨#[]⟩, .bool false] := y0; have z9 : Blk U3.drew g2 24 #[.int .u16 0, .int .u16 0, .int .u16 0, .int .u16 0, .int .u16 0, .int .u16 0, .int .u16 0, .int .u16 0] := z0; have hb9 := hb0.drew; clear y0 z0 hb0; have y0 := y9; have z0 := z9; have hb0 := hb9; clear y9 z9 hb9
        refine wp_region_held_drew (S := fun w' => ldT 62 (.pointer (some ⟨w.heap.size, 0, none⟩)) w' = some #[.string (B x4.s), .bool x4.bad] ∧ ldT 24 (.pointer (some ⟨g4, 0, none⟩)) w' = some #[.int .u16 0, .int .u16 (n1 : Int), .int .u16 (n3 : Int), .int .u16 (n2 : Int), .int .u16 h4, .int .u16 i4, .int .u16 s4, .int .u16 0] ∧ Blk w' w.heap.size 62 #[.string (B x4.s), .bool x4.bad] ∧ Blk w' g4 24 #[.int .u16 0, .int .u16 (n1 : Int), .int .u16 (n3 : Int), .int .u16 (n2 : Int), .int .u16 h4, .int .u16 i4, .int .u16 s4, .int .u16 0]) (by kernel_rfl) (sr_mk (show Blk U3.drew w.heap.size 62 #[.string (B x4.s), .bool x4.bad] from x0) (show Blk U3.drew g4 24 #[.int .u16 0, .int .u16 (n1 : Int), .int .u16 (n3 : Int), .int .u16 (n2 : Int), .int .u16 h4, .int .u16 i4, .int .u16 s4, .int .u16 0] from sx)) (fun hHeld => ?_)
        refine wpAnyH_take (i := 0) (oi := { dst := some 64, op := Op.load 62 (Operand.tmp 1), type := 62, pos := "ref.go:167", after := #[], guard := none }) (v := ?_) rfl (by kernel_rfl) (by kernel_rfl) (by kernel_rfl) (fun _ _ _ h => h) (Or.inl ⟨by rfl, ?_⟩) hHeld ?_
        rotate_left
        · intro w hSw
          try dsimp only at hSw
          go_simp
          try with_reducible rfl
        try simp only [Act.put, List.setIfInBounds_toArray, List.set_cons_zero, List.set_cons_succ]
        refine wpAnyH_take (i := 1) (oi := { dst := some 65, op := Op.load 24 (Operand.tmp 7), type := 24, pos := "ref.go:167", after := #[{ on := 2, ground := Ground.gcOnly Departure.lateStores }], guard := none }) (v := ?_) rfl (by kernel_rfl) (by kernel_rfl) (by kernel_rfl) (fun _ _ _ h => h) (Or.inl ⟨by rfl, ?_⟩) hHeld ?_
        rotate_left
        · intro w hSw
          try dsimp only at hSw
          go_simp
          try with_reducible rfl
        try simp only [Act.put, List.setIfInBounds_toArray, List.set_cons_zero, List.set_cons_succ]
        refine wpAnyH_ready (rs := [2]) (by kernel_rfl) (by simp) ?_
        refine AllReadyH.cons (o := { dst := none, op := Op.store 62 (Operand.tmp 2) (Operand.tmp 64), type := 0, pos := "ref.go:167", after := #[{ on := 0, ground := Ground.data }, { on := 0, ground := Ground.phase }, { on := 1, ground := Ground.textOnly Departure.lateStores }], guard := none }) rfl (fun K hK => ?_) (AllReadyH.nil)
        rw [if_pos (by rfl)]
        refine wp_store_g 62 (.tmp 2) (.tmp 64) rfl rfl g1 0 #[.string (B x4.s), .bool x4.bad] #[.string (B x4.s), .bool x4.bad] rfl rfl _ _ y0 (Nat.le_refl 2) (by kernel_rfl) (by kernel_rfl) (by kernel_rfl) ?_
        replace y0 := Blk.row (g := g1) y0 #[.string (B x4.s), .bool x4.bad]
        replace z0 := Blk.rowFar (g' := g1) z0 (by omega) #[.string (B x4.s), .bool x4.bad]
        replace hb0 := below_row hb0 (show w.heap.size ≤ g1 by omega) #[.string (B x4.s), .bool x4.bad]
        refine hK.out _ _ (sr_on hHeld (by omega) (by omega)) (fun hHeld2 => ?_)
        clear hK K hHeld; have hHeld := hHeld2; clear hHeld2
        try simp only [Act.put, List.setIfInBounds_toArray, List.set_cons_zero, List.set_cons_succ]
        refine wpAnyH_ready (rs := [3]) (by kernel_rfl) (by simp) ?_
        refine AllReadyH.cons (o := { dst := none, op := Op.store 24 (Operand.tmp 3) (Operand.tmp 65), type := 0, pos := "ref.go:167", after := #[{ on := 1, ground := Ground.data }, { on := 2, ground := Ground.chain }, { on := 0, ground := Ground.phase }, { on := 1, ground := Ground.phase }, { on := 2, ground := Ground.phase }], guard := none }) rfl (fun K hK => ?_) (AllReadyH.nil)
        rw [if_pos (by rfl)]
        refine wp_store_g 24 (.tmp 3) (.tmp 65) rfl rfl g2 0 #[.int .u16 0, .int .u16 (n1 : Int), .int .u16 (n3 : Int), .int .u16 (n2 : Int), .int .u16 h4, .int .u16 i4, .int .u16 s4, .int .u16 0] #[.int .u16 0, .int .u16 (n1 : Int), .int .u16 (n3 : Int), .int .u16 (n2 : Int), .int .u16 h4, .int .u16 i4, .int .u16 s4, .int .u16 0] rfl rfl _ _ z0 (Nat.le_refl 8) (by kernel_rfl) (by kernel_rfl) (by kernel_rfl) ?_
        replace z0 := Blk.row (g := g2) z0 #[.int .u16 0, .int .u16 (n1 : Int), .int .u16 (n3 : Int), .int .u16 (n2 : Int), .int .u16 h4, .int .u16 i4, .int .u16 s4, .int .u16 0]
        replace y0 := Blk.rowFar (g' := g2) y0 (by omega) #[.int .u16 0, .int .u16 (n1 : Int), .int .u16 (n3 : Int), .int .u16 (n2 : Int), .int .u16 h4, .int .u16 i4, .int .u16 s4, .int .u16 0]
        replace hb0 := below_row hb0 (show w.heap.size ≤ g2 by omega) #[.int .u16 0, .int .u16 (n1 : Int), .int .u16 (n3 : Int), .int .u16 (n2 : Int), .int .u16 h4, .int .u16 i4, .int .u16 s4, .int .u16 0]
        refine hK.out _ _ (sr_on hHeld (by omega) (by omega)) (fun hHeld2 => ?_)
        clear hK K hHeld; have hHeld := hHeld2; clear hHeld2
        try simp only [Act.put, List.setIfInBounds_toArray, List.set_cons_zero, List.set_cons_succ]
        refine wpAnyH_done (by kernel_rfl) ?_ _
        go_wp2_with fail
        refine bodyPost_ret (results_rr (p := 2) (q := 3) rfl _ _ _ _ _ _ #[.string (B x4.s), .bool x4.bad] #[.int .u16 0, .int .u16 (n1 : Int), .int .u16 (n3 : Int), .int .u16 (n2 : Int), .int .u16 h4, .int .u16 i4, .int .u16 s4, .int .u16 0] rfl rfl y0 rfl z0 rfl) rfl ⟨congrArg Ending.returned HV.out, hb0⟩
      | false =>
        rw [if_neg Bool.false_ne_true] at HQ
        have HV := Lib.hid (show Value.tuple #[.agg #[.string (B x3.s), .bool x3.bad], .agg #[.int .u16 0, .int .u16 (n1 : Int), .int .u16 (n3 : Int), .int .u16 (n2 : Int), .int .u16 2, .int .u16 0, .int .u16 0, .int .u16 0]] = .tuple #[rv (stQ X).2, .agg (sA (stQ X).1)] by rw [HQ])
        clear HQ xx
        go_upto_region 17 with fail
        have y9 : Blk U2.drew g1 62 #[.string ⟨#[]⟩, .bool false] := y0; have z9 : Blk U2.drew g2 24 #[.int .u16 0, .int .u16 0, .int .u16 0, .int .u16 0, .int .u16 0, .int .u16 0, .int .u16 0, .int .u16 0] := z0; have hb9 := hb0.drew; clear y0 z0 hb0; have y0 := y9; have z0 := z9; have hb0 := hb9; clear y9 z9 hb9
        refine wp_region_held_drew (S := fun w' => ldT 62 (.pointer (some ⟨w.heap.size, 0, none⟩)) w' = some #[.string (B x3.s), .bool x3.bad] ∧ ldT 24 (.pointer (some ⟨g4, 0, none⟩)) w' = some #[.int .u16 0, .int .u16 (n1 : Int), .int .u16 (n3 : Int), .int .u16 (n2 : Int), .int .u16 2, .int .u16 0, .int .u16 0, .int .u16 0] ∧ Blk w' w.heap.size 62 #[.string (B x3.s), .bool x3.bad] ∧ Blk w' g4 24 #[.int .u16 0, .int .u16 (n1 : Int), .int .u16 (n3 : Int), .int .u16 (n2 : Int), .int .u16 2, .int .u16 0, .int .u16 0, .int .u16 0]) (by kernel_rfl) (sr_mk (show Blk U2.drew w.heap.size 62 #[.string (B x3.s), .bool x3.bad] from x0) (show Blk U2.drew g4 24 #[.int .u16 0, .int .u16 (n1 : Int), .int .u16 (n3 : Int), .int .u16 (n2 : Int), .int .u16 2, .int .u16 0, .int .u16 0, .int .u16 0] from sx)) (fun hHeld => ?_)
        refine wpAnyH_take (i := 0) (oi := { dst := some 64, op := Op.load 62 (Operand.tmp 1), type := 62, pos := "ref.go:167", after := #[], guard := none }) (v := ?_) rfl (by kernel_rfl) (by kernel_rfl) (by kernel_rfl) (fun _ _ _ h => h) (Or.inl ⟨by rfl, ?_⟩) hHeld ?_
        rotate_left
        · intro w hSw
          try dsimp only at hSw
          go_simp
          try with_reducible rfl
        try simp only [Act.put, List.setIfInBounds_toArray, List.set_cons_zero, List.set_cons_succ]
        refine wpAnyH_take (i := 1) (oi := { dst := some 65, op := Op.load 24 (Operand.tmp 7), type := 24, pos := "ref.go:167", after := #[{ on := 2, ground := Ground.gcOnly Departure.lateStores }], guard := none }) (v := ?_) rfl (by kernel_rfl) (by kernel_rfl) (by kernel_rfl) (fun _ _ _ h => h) (Or.inl ⟨by rfl, ?_⟩) hHeld ?_
        rotate_left
        · intro w hSw
          try dsimp only at hSw
          go_simp
          try with_reducible rfl
        try simp only [Act.put, List.setIfInBounds_toArray, List.set_cons_zero, List.set_cons_succ]
        refine wpAnyH_ready (rs := [2]) (by kernel_rfl) (by simp) ?_
        refine AllReadyH.cons (o := { dst := none, op := Op.store 62 (Operand.tmp 2) (Operand.tmp 64), type := 0, pos := "ref.go:167", after := #[{ on := 0, ground := Ground.data }, { on := 0, ground := Ground.phase }, { on := 1, ground := Ground.textOnly Departure.lateStores }], guard := none }) rfl (fun K hK => ?_) (AllReadyH.nil)
        rw [if_pos (by rfl)]
        refine wp_store_g 62 (.tmp 2) (.tmp 64) rfl rfl g1 0 #[.string (B x3.s), .bool x3.bad] #[.string (B x3.s), .bool x3.bad] rfl rfl _ _ y0 (Nat.le_refl 2) (by kernel_rfl) (by kernel_rfl) (by kernel_rfl) ?_
        replace y0 := Blk.row (g := g1) y0 #[.string (B x3.s), .bool x3.bad]
        replace z0 := Blk.rowFar (g' := g1) z0 (by omega) #[.string (B x3.s), .bool x3.bad]
        replace hb0 := below_row hb0 (show w.heap.size ≤ g1 by omega) #[.string (B x3.s), .bool x3.bad]
        refine hK.out _ _ (sr_on hHeld (by omega) (by omega)) (fun hHeld2 => ?_)
        clear hK K hHeld; have hHeld := hHeld2; clear hHeld2
        try simp only [Act.put, List.setIfInBounds_toArray, List.set_cons_zero, List.set_cons_succ]
        refine wpAnyH_ready (rs := [3]) (by kernel_rfl) (by simp) ?_
        refine AllReadyH.cons (o := { dst := none, op := Op.store 24 (Operand.tmp 3) (Operand.tmp 65), type := 0, pos := "ref.go:167", after := #[{ on := 1, ground := Ground.data }, { on := 2, ground := Ground.chain }, { on := 0, ground := Ground.phase }, { on := 1, ground := Ground.phase }, { on := 2, ground := Ground.phase }], guard := none }) rfl (fun K hK => ?_) (AllReadyH.nil)
        rw [if_pos (by rfl)]
        refine wp_store_g 24 (.tmp 3) (.tmp 65) rfl rfl g2 0 #[.int .u16 0, .int .u16 (n1 : Int), .int .u16 (n3 : Int), .int .u16 (n2 : Int), .int .u16 2, .int .u16 0, .int .u16 0, .int .u16 0] #[.int .u16 0, .int .u16 (n1 : Int), .int .u16 (n3 : Int), .int .u16 (n2 : Int), .int .u16 2, .int .u16 0, .int .u16 0, .int .u16 0] rfl rfl _ _ z0 (Nat.le_refl 8) (by kernel_rfl) (by kernel_rfl) (by kernel_rfl) ?_
        replace z0 := Blk.row (g := g2) z0 #[.int .u16 0, .int .u16 (n1 : Int), .int .u16 (n3 : Int), .int .u16 (n2 : Int), .int .u16 2, .int .u16 0, .int .u16 0, .int .u16 0]
        replace y0 := Blk.rowFar (g' := g2) y0 (by omega) #[.int .u16 0, .int .u16 (n1 : Int), .int .u16 (n3 : Int), .int .u16 (n2 : Int), .int .u16 2, .int .u16 0, .int .u16 0, .int .u16 0]
        replace hb0 := below_row hb0 (show w.heap.size ≤ g2 by omega) #[.int .u16 0, .int .u16 (n1 : Int), .int .u16 (n3 : Int), .int .u16 (n2 : Int), .int .u16 2, .int .u16 0, .int .u16 0, .int .u16 0]
        refine hK.out _ _ (sr_on hHeld (by omega) (by omega)) (fun hHeld2 => ?_)
        clear hK K hHeld; have hHeld := hHeld2; clear hHeld2
        try simp only [Act.put, List.setIfInBounds_toArray, List.set_cons_zero, List.set_cons_succ]
        refine wpAnyH_done (by kernel_rfl) ?_ _
        go_wp2_with fail
        refine bodyPost_ret (results_rr (p := 2) (q := 3) rfl _ _ _ _ _ _ #[.string (B x3.s), .bool x3.bad] #[.int .u16 0, .int .u16 (n1 : Int), .int .u16 (n3 : Int), .int .u16 (n2 : Int), .int .u16 2, .int .u16 0, .int .u16 0, .int .u16 0] rfl rfl y0 rfl z0 rfl) rfl ⟨congrArg Ending.returned HV.out, hb0⟩
end Go.Proofs.YtgdgkgeoigljcaaDoor.Fo
