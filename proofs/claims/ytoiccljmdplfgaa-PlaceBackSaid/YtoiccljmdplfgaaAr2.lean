/-
  AREAS: whether a point crosses a side; the sides, one after the other: walked.
-/
import Derived.Test.YtoiccljmdplfgaaAr1
namespace Go.Proofs.Ytoiccljmdplfgaa.Ar
open Go.ChangeShapes Go.WideShapes Go.ChangeAt Go.RowKit Go.Shelf
open Go.Proofs.Ytoiccljmdplfgaa
open Go.Proofs.Ytoiccljmdplfgaa.Wd
open Go.Proofs.Ytoiccljmdplfgaa.Pl
open Go.Proofs.Ytoiccljmdplfgaa.Nv
set_option linter.unusedVariables false
attribute [local go_sem] Oper.semAt_some
set_option maxRecDepth 20000 in
set_option maxHeartbeats 3200000 in
theorem crossed_hi (a b p : P2) (w : World) (h : b.la < a.la) :
    Calls Try.prog 79 #[a.V, b.V, p.V] w fun e w' => e = .returned (.bool (crB a b p)) ∧ Below w.heap.size w w' := by
  have i1 := (((BI.start w).alloc (.cells a.A 23)).alloc (.cells b.A 23)).alloc (.cells p.A 23)
  have xa := ((Blk.new w 23 a.A).alloc (.cells b.A 23)).alloc (.cells p.A 23)
  have xb := (blk_at (w.alloc (.cells a.A 23)) 23 b.A (sz1 _ _ rfl)).alloc (.cells p.A 23)
  have xp := blk_at ((w.alloc (.cells a.A 23)).alloc (.cells b.A 23)) 23 p.A (sz1 _ _ (sz1 _ _ rfl))
  have xb1 := Blk.rowFar xb (show w.heap.size + 1 ≠ w.heap.size by omega) b.A
  have xa2 := Blk.rowFar (Blk.row xa b.A) (show w.heap.size ≠ w.heap.size + 1 by omega) a.A
  have xb2 := Blk.row xb1 a.A
  have xp2 := Blk.rowFar (Blk.rowFar xp (show w.heap.size + 1 + 1 ≠ w.heap.size by omega) b.A) (show w.heap.size + 1 + 1 ≠ w.heap.size + 1 by omega) a.A
  have i2 : BI w _ := below_row (below_row i1.b (Nat.le_refl w.heap.size) b.A) (Nat.le_add_right w.heap.size 1) a.A
  have hE := Lib.hid (show crB a b p = (decide (b.la ≤ p.la) && (decide (p.la < a.la) && decide (turnV b a p = 1))) by unfold crB; rw [if_pos h])
  have ht := fun w => turn_any b a p w
  go_enter Try.func79, Try.ntmps79
  go_upto_region 2 with fail
  go_upto_region 3 with (first | refine wpList_row_g rfl 23 _ rfl _ rfl _ _ _ _ xa Try.underlying23 rfl (by kernel_rfl) ?_ | refine wpList_row_g rfl 23 _ rfl _ rfl _ _ _ _ xb Try.underlying23 rfl (by kernel_rfl) ?_ | refine wpList_store_g rfl 23 _ _ rfl rfl _ 0 b.A b.A rfl rfl _ _ xa (by show 0 + 2 ≤ 2; decide) (by kernel_rfl) (by kernel_rfl) (by kernel_rfl) ?_ | refine wpList_store_g rfl 23 _ _ rfl rfl _ 0 a.A a.A rfl rfl _ _ xb1 (by show 0 + 2 ≤ 2; decide) (by kernel_rfl) (by kernel_rfl) (by kernel_rfl) ?_)
  clear xa xb xp xb1 i1
  generalize ((((w.alloc (.cells a.A 23)).alloc (.cells b.A 23)).alloc (.cells p.A 23)).setRow w.heap.size b.A).setRow (w.heap.size + 1) a.A = W at *
  have e1 : W.cell? ⟨w.heap.size, 0, none⟩ = some (.int .i64 b.la) := xa2.cell 0
  have e2 : W.cell? ⟨w.heap.size + 1, 0, none⟩ = some (.int .i64 a.la) := xb2.cell 0
  have e3 : W.cell? ⟨w.heap.size + 1 + 1, 0, none⟩ = some (.int .i64 p.la) := xp2.cell 0
  by_cases g1 : b.la ≤ p.la
  · by_cases g2 : p.la < a.la
    · go_wp2_with (first | refine wpList_row_g rfl 23 _ rfl _ rfl _ _ _ _ xa2 Try.underlying23 rfl (by kernel_rfl) ?_ | refine wpList_row_g rfl 23 _ rfl _ rfl _ _ _ _ xb2 Try.underlying23 rfl (by kernel_rfl) ?_ | refine wpList_row_g rfl 23 _ rfl _ rfl _ _ _ _ xp2 Try.underlying23 rfl (by kernel_rfl) ?_)
      refine (ht _).mono ?_; rintro e w2 ⟨rfl, hb2⟩
      have i3 := i2.call hb2
      rw [decide_eq_true g1, decide_eq_true g2] at hE
      cases hq : decide (turnV b a p = 1)
      · have hq2 : (turnV b a p == 1) = false := by simpa using hq
        rw [hq] at hE
        clear hq
        go_wp2_with fail
        go_ret
        exact ⟨by rw [hE.out]; rfl, i3⟩
      · have hq2 : (turnV b a p == 1) = true := by simpa using hq
        rw [hq] at hE
        clear hq
        go_wp2_with fail
        go_ret
        exact ⟨by rw [hE.out]; rfl, i3⟩
    · rw [decide_eq_false g2] at hE
      rw [decide_eq_true g1] at hE
      go_wp2_with fail
      go_ret
      exact ⟨by rw [hE.out]; rfl, i2⟩
  · rw [decide_eq_false g1] at hE
    go_wp2_with fail
    go_ret
    exact ⟨by rw [hE.out]; rfl, i2⟩
theorem crossed_any (a b p : P2) (w : World) :
    Calls Try.prog 79 #[a.V, b.V, p.V] w fun e w' => e = .returned (.bool (crB a b p)) ∧ Below w.heap.size w w' := by
  by_cases h : b.la < a.la
  · exact crossed_hi a b p w h
  · exact crossed_lo a b p w h
abbrev pt_ (l : List P2) (k : Nat) : P2 := l.getD k ⟨0, 0⟩
theorem pt_eq {l : List P2} {k : Nat} (h : k < l.length) : l[k] = pt_ l k := by show _ = l.getD k _; rw [List.getD_eq_getElem?_getD, List.getElem?_eq_getElem h]; rfl
def nx (l : List P2) (k : Nat) : Nat := if k + 1 < l.length then k + 1 else 0
/-- the first k sides -/
def sidesK (l : List P2) (k : Nat) : List (P2 × P2) := (List.range k).map fun j => (pt_ l j, pt_ l (nx l j))
abbrev sidesL (l : List P2) : List (P2 × P2) := sidesK l l.length
theorem sidesK_succ (l : List P2) (k : Nat) : sidesK l (k + 1) = sidesK l k ++ [(pt_ l k, pt_ l (nx l k))] := by simp [sidesK, List.range_succ]
theorem sidesK_len (l : List P2) (k : Nat) : (sidesK l k).length = k := by simp [sidesK]
theorem sidesK_pre {l : List P2} {k : Nat} (h : k ≤ l.length) : sidesK l k <+: sidesL l := by
  refine ⟨(List.range (l.length - k)).map fun j => (pt_ l (k + j), pt_ l (nx l (k + j))), ?_⟩
  unfold sidesL sidesK
  conv => rhs; rw [show l.length = k + (l.length - k) by omega, List.range_add, List.map_append, List.map_map]
  rfl
/-- what a round keeps: what lay below n0, and the area's block -/
structure Kp (Bs n0 : Nat) (W W' : World) : Prop where
  b : Below n0 W W'
  s : W'.heap[Bs]? = W.heap[Bs]?
theorem Kp.t {Bs n0 : Nat} {A B C : World} (h : Kp Bs n0 A B) (k : Kp Bs n0 B C) : Kp Bs n0 A C := ⟨h.b.trans k.b, k.s.trans h.s⟩
theorem Kp.rfl' {Bs n0 : Nat} (W : World) : Kp Bs n0 W W := ⟨Below.refl _ _, rfl⟩
theorem Kp.of {Bs n0 : Nat} {W W' : World} (h : Below W.heap.size W W') (hn : n0 ≤ W.heap.size) (hs : Bs < W.heap.size) : Kp Bs n0 W W' := ⟨h.mono hn, h.block Bs hs⟩
theorem Kp.al {Bs n0 : Nat} {W : World} (hn : n0 ≤ W.heap.size) (hs : Bs < W.heap.size) (o : Obj) : Kp Bs n0 W (W.alloc o) := Kp.of ((Below.refl _ _).alloc (Nat.le_refl _) _) hn hs
theorem Kp.blk {Bs n0 : Nat} {W W' : World} {t : TypeId} {cs : Array Value} (h : Kp Bs n0 W W') (x : Blk W Bs t cs) : Blk W' Bs t cs := h.s.trans x
theorem row_form {w : World} {B m : Nat} {p : Addr} {cs : Array Value} (hm : 0 < m) (h : Row w B (p.add m) cs) : Row w B ⟨p.block, p.off + m, none⟩ cs := by
  unfold Addr.add at h; rwa [if_neg (by omega)] at h
theorem row_0 {w : World} {B : Nat} {p : Addr} {cs : Array Value} (h : Row w B (p.add (0 * 2)) cs) : Row w B p cs := by
  have e : p.add (0 * 2) = p := by unfold Addr.add; simp
  rwa [e] at h
set_option maxRecDepth 100000 in
set_option maxHeartbeats 6400000 in
theorem sides1_in (m lp Bs n0 : Nat) (z : ByteArray) (A : Option Addr) (n c : Nat) (l : List P2) (J Jx : List (P2 × P2) → World → Prop)
    (hY : ∀ pre x W, J pre W → pre.length < n → YieldAt Fence.wide (m - 1) Try.prog lp #[x.1.V, x.2.V] W fun e W' =>
      (e = .returned (.bool true) ∧ J (pre ++ [x]) W' ∧ Kp Bs n0 W W') ∨ (e = .returned (.bool false) ∧ Jx (pre ++ [x]) W'))
    (W : World) (hJ : AbidesFrom W.heap.size J) (hBs : Blk W Bs 34 (arA z A n c)) (hn0 : n0 ≤ W.heap.size) (hR : Pts W n0 A n l) (hm : n ≤ 1100) (h0 : J [] W) :
    CallsIn Fence.wide m Try.prog 83 #[.func (.yield lp) #[] #[], .pointer (some ⟨Bs, 0, none⟩)] W fun e W' => (∃ v, e = .returned v) ∧
      ((∃ ys, ys = sidesL l ∧ J ys W') ∨ (∃ pre, pre <+: sidesL l ∧ Jx pre W')) := by
  have hll : l.length = n := hR.1
  have c1 : W.cell? ⟨Bs, 1, none⟩ = some (.slice A n c) := hBs.cell 1
  refine callsIn_of_wp Try.func83 rfl trivial ?_ rfl
  simp only [Try.ntmps83, List.size_toArray, List.length_cons, List.length_nil, Nat.reduceAdd, Nat.reduceSub, Array.replicate_succ, Array.replicate_zero, List.push_toArray, List.append_toArray, List.nil_append, List.cons_append]
  gi_wp2
  gi_loopw [9] (fun i wr => ∃ k : Nat, i = .int .i64 k ∧ k ≤ n ∧ J (sidesK l k) wr ∧ Kp Bs n0 W wr ∧ W.heap.size ≤ wr.heap.size) (fun i _ => n - (intOf i).toNat)
  case atStart => exact ⟨0, rfl, Nat.zero_le _, h0, Kp.rfl' _, Nat.le_refl _⟩
  case round =>
    obtain ⟨k, rfl, hk, hJs, hkp, hsz⟩ := hrel
    by_cases hlt : k < n
    · have hlt' : (k : Int) < (n : Int) := by omega
      have hRw := fun W' (h : Kp Bs n0 W W') => hR.below h.b
      obtain ⟨ad, rfl, -⟩ := hR.row (show 0 < n by omega) (show 0 < l.length by omega)
      have hbs : Bs < wr.heap.size := Nat.lt_of_lt_of_le hBs.lt hsz
      have hns : n0 ≤ wr.heap.size := Nat.le_trans hn0 hsz
      have rw_ : ∀ W' j, Kp Bs n0 W W' → j < n → Row W' n0 (ad.add (j * 2)) (pt_ l j).A := fun W' j h hj => by
        obtain ⟨ad', e, r⟩ := (hRw W' h).row hj (by omega)
        obtain rfl := Option.some.inj e
        rwa [pt_eq] at r
      have c1 : wr.cell? ⟨Bs, 1, none⟩ = some (.slice (some ad) n c) := (hkp.blk hBs).cell 1
      have r1 := rw_ _ k hkp hlt
      have hsl := sidesK_len l k
      have hsu := Lib.hid (sidesK_succ l k)
      have hK1 := hkp.t (Kp.al (Bs := Bs) hns hbs (.cells (pt_ l k).A 23))
      have hK2 : ∀ cs, Kp Bs n0 W ((wr.alloc (.cells (pt_ l k).A 23)).alloc (.cells cs 23)) := fun cs => hK1.t (Kp.al (by rw [sz1 _ _ rfl]; omega) (by rw [sz1 _ _ rfl]; omega) _)
      have d1 : (wr.alloc (.cells (pt_ l k).A 23)).cell? ⟨Bs, 1, none⟩ = some (.slice (some ad) n c) := (hK1.blk hBs).cell 1
      have r2 := row_0 (rw_ _ 0 hK1 (by omega))
      have d2 : ∀ cs, ((wr.alloc (.cells (pt_ l k).A 23)).alloc (.cells cs 23)).cell? ⟨Bs, 1, none⟩ = some (.slice (some ad) n c) := fun cs => ((hK2 cs).blk hBs).cell 1
      have hy0 := fun (y : P2) => hY (sidesK l k) (pt_ l k, y) ((wr.alloc (.cells (pt_ l k).A 23)).alloc (.cells y.A 23)) (hJ _ _ _ none (hJ _ _ _ none hJs (World.grownBy_alloc wr _ none) (fun r e => by cases e)) (World.grownBy_alloc _ _ none) (fun r e => by cases e)) (by omega)
      have x1 := fun (y : P2) => (Blk.new wr 23 (pt_ l k).A).alloc (.cells y.A 23)
      have x2 := fun (y : P2) => blk_at (wr.alloc (.cells (pt_ l k).A 23)) 23 y.A (sz1 _ _ rfl)
      have hKe : ∀ W' (y : P2), Kp Bs n0 ((wr.alloc (.cells (pt_ l k).A 23)).alloc (.cells y.A 23)) W' → Kp Bs n0 W W' := fun W' y h => (hK2 _).t h
      have d2a := d2 (pt_ l 0).A
      by_cases hk1 : k + 1 < n
      · have hk1' : (k : Int) + 1 < (n : Int) := by omega
        have hk2' : ((k + 1 : Nat) : Int) < (n : Int) := by omega
        have hnx : nx l k = k + 1 := by unfold nx; rw [if_pos (by omega)]
        rw [hnx] at hsu
        have r3 := row_form (show 0 < (k + 1) * 2 by omega) (rw_ _ (k + 1) (hK2 (pt_ l 0).A) hk1)
        have x1a := x1 (pt_ l (k + 1)); have x2a := x2 (pt_ l (k + 1))
        have hy1 := hy0 (pt_ l (k + 1))
        have hKe1 := fun W' => hKe W' (pt_ l (k + 1))
        clear hnx x1 x2 hy0 hKe rw_ hRw hK1 hK2 d2
        generalize pt_ l (k + 1) = y at *
        generalize pt_ l k = x at *
        generalize pt_ l 0 = u at *
        obtain ⟨fn, tmps, assign, body, hy, hR1⟩ := hy1
        dsimp only at hy
        gi_wp2_with (first | refine wpListIn_at_g rfl 23 _ rfl n0 _ x.A rfl _ r1 Try.underlying23 rfl (by kernel_rfl) ?_ | refine wpListIn_store_new rfl 23 _ _ rfl rfl wr.heap.size x.A rfl rfl _ #[.int .i64 0, .int .i64 0] wr rfl rfl rfl (by kernel_rfl) (by kernel_rfl) ?_ | refine wpListIn_at_g rfl 23 _ rfl n0 _ u.A rfl _ r2 Try.underlying23 rfl (by kernel_rfl) ?_ | refine wpListIn_store_new rfl 23 _ _ rfl rfl (wr.heap.size + 1) u.A rfl rfl _ #[.int .i64 0, .int .i64 0] (wr.alloc (.cells x.A 23)) rfl (sz1 _ _ rfl).symm rfl (by kernel_rfl) (by kernel_rfl) ?_ | refine wpListIn_at_g rfl 23 _ rfl n0 _ y.A rfl _ r3 Try.underlying23 rfl (by kernel_rfl) ?_ | refine wpListIn_store_new rfl 23 _ _ rfl rfl (wr.heap.size + 1) y.A rfl rfl _ u.A (wr.alloc (.cells x.A 23)) rfl (sz1 _ _ rfl).symm rfl (by kernel_rfl) (by kernel_rfl) ?_ | refine wpListIn_row_g rfl 23 _ rfl _ rfl _ _ _ x1a Try.underlying23 rfl (by kernel_rfl) ?_ | refine wpListIn_row_g rfl 23 _ rfl _ rfl _ _ _ x2a Try.underlying23 rfl (by kernel_rfl) ?_)
        refine ⟨fun h => (by cases h), hR1.mono ?_⟩
        rintro e W3 (⟨rfl, hJ3, hk3⟩ | ⟨rfl, hJx3⟩)
        · have hs3 : W.heap.size ≤ W3.heap.size := Nat.le_trans (show W.heap.size ≤ ((wr.alloc (.cells x.A 23)).alloc (.cells y.A 23)).heap.size by rw [sz1 _ _ (sz1 _ _ rfl)]; omega) hk3.b.size
          have hK3 := hKe1 _ hk3
          clear hk3
          gi_wp2
          go_roundw
          case rel => exact ⟨k + 1, by go_num, by omega, by rw [hsu.out]; exact hJ3, hK3, hs3⟩
          case measure => simp [intOf]; omega
        · gi_wp2
          refine bodyPost_ret (results_none rfl _ _ _) rfl ?_
          exact ⟨⟨_, rfl⟩, .inr ⟨_, sidesK_pre (k := k + 1) (by omega), by rw [hsu.out]; exact hJx3⟩⟩
      · have hk1' : ¬ (k : Int) + 1 < (n : Int) := by omega
        have hk2' : ¬ ((k + 1 : Nat) : Int) < (n : Int) := by omega
        have hnx : nx l k = 0 := by unfold nx; rw [if_neg (by omega)]
        rw [hnx] at hsu
        have x1a := x1 (pt_ l 0); have x2a := x2 (pt_ l 0)
        have hy1 := hy0 (pt_ l 0)
        have hKe1 := fun W' => hKe W' (pt_ l 0)
        clear hnx x1 x2 hy0 hKe rw_ hRw hK1 hK2 d2
        generalize pt_ l k = x at *
        generalize pt_ l 0 = u at *
        obtain ⟨fn, tmps, assign, body, hy, hR1⟩ := hy1
        dsimp only at hy
        gi_wp2_with (first | refine wpListIn_at_g rfl 23 _ rfl n0 _ x.A rfl _ r1 Try.underlying23 rfl (by kernel_rfl) ?_ | refine wpListIn_store_new rfl 23 _ _ rfl rfl wr.heap.size x.A rfl rfl _ #[.int .i64 0, .int .i64 0] wr rfl rfl rfl (by kernel_rfl) (by kernel_rfl) ?_ | refine wpListIn_at_g rfl 23 _ rfl n0 _ u.A rfl _ r2 Try.underlying23 rfl (by kernel_rfl) ?_ | refine wpListIn_store_new rfl 23 _ _ rfl rfl (wr.heap.size + 1) u.A rfl rfl _ #[.int .i64 0, .int .i64 0] (wr.alloc (.cells x.A 23)) rfl (sz1 _ _ rfl).symm rfl (by kernel_rfl) (by kernel_rfl) ?_ | refine wpListIn_row_g rfl 23 _ rfl _ rfl _ _ _ x1a Try.underlying23 rfl (by kernel_rfl) ?_ | refine wpListIn_row_g rfl 23 _ rfl _ rfl _ _ _ x2a Try.underlying23 rfl (by kernel_rfl) ?_)
        refine ⟨fun h => (by cases h), hR1.mono ?_⟩
        rintro e W3 (⟨rfl, hJ3, hk3⟩ | ⟨rfl, hJx3⟩)
        · have hs3 : W.heap.size ≤ W3.heap.size := Nat.le_trans (show W.heap.size ≤ ((wr.alloc (.cells x.A 23)).alloc (.cells u.A 23)).heap.size by rw [sz1 _ _ (sz1 _ _ rfl)]; omega) hk3.b.size
          have hK3 := hKe1 _ hk3
          clear hk3
          gi_wp2
          go_roundw
          case rel => exact ⟨k + 1, by go_num, by omega, by rw [hsu.out]; exact hJ3, hK3, hs3⟩
          case measure => simp [intOf]; omega
        · gi_wp2
          refine bodyPost_ret (results_none rfl _ _ _) rfl ?_
          exact ⟨⟨_, rfl⟩, .inr ⟨_, sidesK_pre (k := k + 1) (by omega), by rw [hsu.out]; exact hJx3⟩⟩
    · obtain rfl : k = n := by omega
      have hlt' : ¬ (k : Int) < (k : Int) := by omega
      have e1 : sidesL l = sidesK l k := by unfold sidesL; rw [hll]
      gi_wp2
      go_end0
      first | exact ⟨⟨_, rfl⟩, .inl hJs⟩ | exact ⟨⟨_, rfl⟩, .inl ⟨_, e1.symm, hJs⟩⟩
theorem sides_stops (m Bs n0 : Nat) (z : ByteArray) (A : Option Addr) (n c : Nat) (l : List P2) (w : World) (hBs : Blk w Bs 34 (arA z A n c)) (hn0 : n0 ≤ w.heap.size) (hR : Pts w n0 A n l) (hm : n ≤ 1100) :
    SeqStopsK Fence.wide m Try.prog 83 #[.pointer (some ⟨Bs, 0, none⟩)] (fun x : P2 × P2 => #[x.1.V, x.2.V]) (Kp Bs n0) (fun ys => ys = sidesL l) (fun pre => pre <+: sidesL l) n w := fun lp J Jx W hW hJ hJx hY h0 =>
  sides1_in m lp Bs n0 z A n c l J Jx hY W hJ ((hW.block Bs hBs.lt).trans hBs) (Nat.le_trans hn0 hW.size) (hR.below (hW.mono hn0)) hm h0
end Go.Proofs.Ytoiccljmdplfgaa.Ar
