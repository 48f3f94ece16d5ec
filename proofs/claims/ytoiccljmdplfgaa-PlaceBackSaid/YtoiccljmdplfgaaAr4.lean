/-
  AREAS: the inside, the size: loops over the sides, walked.
-/
import Derived.Test.YtoiccljmdplfgaaAr3
namespace Go.Proofs.Ytoiccljmdplfgaa.Ar
open Go.ChangeShapes Go.WideShapes Go.ChangeAt Go.RowKit Go.Shelf
open Go.Proofs.Ytoiccljmdplfgaa
open Go.Proofs.Ytoiccljmdplfgaa.Wd
open Go.Proofs.Ytoiccljmdplfgaa.Pl
open Go.Proofs.Ytoiccljmdplfgaa.Nv
set_option linter.unusedVariables false
attribute [local go_sem] Oper.semAt_some
/-- whether an odd number of sides is crossed -/
def odB (p : P2) (s : List (P2 × P2)) : Bool := s.foldl (fun o x => if crB x.1 x.2 p = true then !o else o) false
theorem odB_snoc (p : P2) (s : List (P2 × P2)) (x : P2 × P2) : odB p (s ++ [x]) = if crB x.1 x.2 p = true then !odB p s else odB p s := by unfold odB; rw [List.foldl_append]; rfl
def inB (l : List P2) (p : P2) : Bool := edB l p || odB p (sidesL l)
set_option maxRecDepth 100000 in
set_option maxHeartbeats 6400000 in
theorem inside_in (z : ByteArray) (A : Option Addr) (n c : Nat) (l : List P2) (p : P2) (w : World) (hR : Pts w w.heap.size A n l) (hm : n ≤ 1100) :
    CallsIn Fence.wide 5 Try.prog 53 #[arV z A n c, p.V] w fun e W' => e = .returned (.bool (inB l p)) ∧ Below w.heap.size w W' := by
  have x1 := (Blk.new w 34 (arA z A n c)).alloc (.cells p.A 23)
  have y1 := blk_at (w.alloc (.cells (arA z A n c) 34)) 23 p.A (sz1 _ _ rfl)
  have i1 := ((BI.start w).alloc (.cells (arA z A n c) 34)).alloc (.cells p.A 23)
  have hed := fun W (i : BI w W) => edge_any z A n c l p W ((hR.below i.b).2.more i.b.size |> fun h => ⟨hR.1, h⟩) hm
  refine callsIn_of_wp_marks Try.func53 rfl trivial ?_ rfl
  simp only [Try.ntmps53, List.size_toArray, List.length_cons, List.length_nil, Nat.reduceAdd, Nat.reduceSub, Array.replicate_succ, Array.replicate_zero, List.push_toArray, List.append_toArray, List.nil_append, List.cons_append]
  gi_wp2_with (first | refine wpListIn_row_g rfl 34 _ rfl _ rfl _ _ _ x1 Try.underlying34 rfl (by kernel_rfl) ?_ | refine wpListIn_row_g rfl 23 _ rfl _ rfl _ _ _ y1 Try.underlying23 rfl (by kernel_rfl) ?_)
  refine ⟨trivial, ?_⟩
  have hed1 := hed _ i1
  cases hE : edB l p
  rotate_left
  · have hI := Lib.hid (show inB l p = true by unfold inB; rw [hE]; rfl)
    rw [hE] at hed1
    clear hE
    refine (callsIn_wide.2 hed1).mono ?_
    rintro e w2 ⟨rfl, hb2⟩
    have i2 := i1.call hb2
    gi_wp2_with fail
    exact ⟨_, results_tmp rfl _ _ _, by rw [hI.out]; rfl, i2⟩
  have hI := Lib.hid (show inB l p = odB p (sidesL l) by unfold inB; rw [hE]; rfl)
  rw [hE] at hed1
  clear hE
  refine (callsIn_wide.2 hed1).mono ?_
  rintro e w2 ⟨rfl, hb2⟩
  have i2 := i1.call hb2
  have x2 := x1.below hb2 x1.lt
  have y2 := y1.below hb2 y1.lt
  have x3 := x2.alloc (.cells #[.bool false] 4)
  clear x1 y1 i1 hb2 hed1 hed
  gi_wp2_with (refine wpListIn_row_g rfl 34 _ rfl _ rfl _ _ _ x3 Try.underlying34 rfl (by kernel_rfl) ?_)
  refine ⟨trivial, (callsIn_wide.2 (asides_any z A n c _)).mono ?_⟩
  rintro e w' ⟨rfl, rfl⟩
  gi_wp2_with fail
  have y0 := (y2.alloc (.cells #[.bool false] 4)).alloc (.cells (arA z A n c) 34)
  have r0 := (Blk.new w2 4 #[.bool false]).alloc (.cells (arA z A n c) 34)
  have s0 := blk_at (w2.alloc (.cells #[.bool false] 4)) 34 (arA z A n c) (sz1 _ _ rfl)
  have B0 : Below w.heap.size w ((w2.alloc (.cells #[.bool false] 4)).alloc (.cells (arA z A n c) 34)) := (i2.alloc _).alloc _
  have hsz : ((w2.alloc (.cells #[.bool false] 4)).alloc (.cells (arA z A n c) 34)).heap.size = w2.heap.size + 2 := sz1 _ _ (sz1 _ _ rfl)
  have hw2 := i2.b.size
  generalize (w2.alloc (.cells #[.bool false] 4)).alloc (.cells (arA z A n c) 34) = W0 at *
  clear x2 x3 y2 i2
  have hs1 : w.heap.size ≤ W0.heap.size := by omega
  have hs2 : w2.heap.size + 1 < W0.heap.size := by omega
  generalize w2.heap.size = g2 at *
  clear hsz
  refine wpIn_rangeFunc_ownH (α := P2 × P2) (n := 5) rfl (show 1 ≤ 5 by decide) (gf := 83) (lb := #[.pointer (some ⟨g2 + 1, 0, none⟩)]) rfl trivial (enters_of Try.func83 (by kernel_rfl) rfl)
    (sides_stops (5 - 1) (g2 + 1) w.heap.size z A n c l W0 s0 hs1 (hR.below B0) hm) Kp.t (kp_b hs1 hs2) (Below.refl _ _) (fun _ => rfl)
    (fun (pre : List (P2 × P2)) W => (Blk W (w.heap.size + 1) 23 p.A ∧ Blk W g2 4 #[.bool (odB p pre)] ∧ Blk W (g2 + 1) 34 (arA z A n c)) ∧ Below w.heap.size w W)
    (fun _ _ _ => False)
    (OwnFrom.and (OwnFrom.and (Own.from (blk_own _ _ _) _) (OwnFrom.and (Own.from (blk_own _ _ (fun pre => #[.bool (odB p pre)])) _) (Own.from (blk_own _ _ _) _))) (ownFrom_below (Nat.le_refl _) hs1))
    (fun _ _ _ _ _ hs _ _ => hs)
    ⟨⟨y0, r0, s0⟩, B0⟩
    (fun (x : P2 × P2) a' W => ∃ b1 b2, (Blk W b1 23 x.1.A ∧ Blk W b2 23 x.2.A) ∧ a' = { tmps := #[arV z A n c, p.V, .pointer (some ⟨w.heap.size, 0, none⟩), .pointer (some ⟨w.heap.size + 1, 0, none⟩), .bool false, .pointer (some ⟨g2, 0, none⟩), .pointer (some ⟨b1, 0, none⟩), .pointer (some ⟨b2, 0, none⟩), arV z A n c, p.V, .bool false, arV z A n c, .func (.func 83) #[] #[.pointer (some ⟨g2 + 1, 0, none⟩)], x.1.V, x.2.V, undef, undef, undef, undef, undef, undef, undef], defers := [] })
    (fun x a' _ X Y row hs hg hr => by
      obtain ⟨b1, b2, ⟨h1, h2⟩, h3⟩ := hs
      exact ⟨b1, b2, ⟨blk_own b1 23 (fun (_ : Unit) => x.1.A) () X Y row h1 hg (fun r e => (hr r e).2), blk_own b2 23 (fun (_ : Unit) => x.2.A) () X Y row h2 hg (fun r e => (hr r e).2)⟩, h3⟩)
    ?assign ?body ?done ?stop
  case assign =>
    rintro lp pre x W K ⟨⟨y1, r1, s1⟩, hB⟩ hK
    have hb2 : Below W.heap.size W ((W.alloc (.cells x.1.A 23)).alloc (.cells x.2.A 23)) := ((BI.start W).alloc _).alloc _
    gi_wp2_with (first | refine wpListIn_store_new rfl 23 _ _ rfl rfl W.heap.size x.1.A rfl rfl _ #[.int .i64 0, .int .i64 0] W rfl rfl rfl (by kernel_rfl) (by kernel_rfl) ?_ | refine wpListIn_store_new rfl 23 _ _ rfl rfl (W.heap.size + 1) x.2.A rfl rfl _ #[.int .i64 0, .int .i64 0] (W.alloc (.cells x.1.A 23)) rfl (sz1 _ _ rfl).symm rfl (by kernel_rfl) (by kernel_rfl) ?_)
    exact hK _ _ ((keeps_of_below hb2).from _) (Kp.of hb2 hB.size s1.lt) ⟨⟨(y1.alloc _).alloc _, (r1.alloc _).alloc _, (s1.alloc _).alloc _⟩, hB.trans (hb2.mono hB.size)⟩ ⟨W.heap.size, W.heap.size + 1, ⟨(Blk.new W _ _).alloc _, blk_at _ _ _ (sz1 _ _ rfl)⟩, rfl⟩
  case body =>
    rintro lp pre x a' W hl ⟨r, hr⟩ ⟨⟨y1, r1, s1⟩, hB⟩ ⟨b1, b2, ⟨f1, f2⟩, rfl⟩ hlt
    gi_wp2_with (first | refine wpListIn_row_g rfl 23 _ rfl _ rfl _ _ _ f1 Try.underlying23 rfl (by kernel_rfl) ?_ | refine wpListIn_row_g rfl 23 _ rfl _ rfl _ _ _ f2 Try.underlying23 rfl (by kernel_rfl) ?_ | refine wpListIn_row_g rfl 23 _ rfl _ rfl _ _ _ y1 Try.underlying23 rfl (by kernel_rfl) ?_)
    refine ⟨trivial, ?_⟩
    have hbt := crossed_any x.1 x.2 p W
    have hsn := Lib.hid (odB_snoc p pre x)
    cases hbv : crB x.1 x.2 p
    · rw [hbv] at hbt
      have hs3 := Lib.hid (show odB p (pre ++ [x]) = odB p pre by rw [hsn.out, hbv]; rfl)
      refine (CallsIn.inRound lp (callsIn_wide.2 hbt)).mono ?_
      rintro e w3 ⟨rfl, hb3⟩
      gi_wp2_with fail
      exact ⟨(keeps_of_below hb3).from _, Kp.of hb3 hB.size s1.lt, ⟨y1.below hb3 y1.lt, by rw [hs3.out]; exact r1.below hb3 r1.lt, s1.below hb3 s1.lt⟩, hB.trans (hb3.mono hB.size)⟩
    · rw [hbv] at hbt
      have hs3 := Lib.hid (show odB p (pre ++ [x]) = !odB p pre by rw [hsn.out, hbv]; rfl)
      refine (CallsIn.inRound lp (callsIn_wide.2 hbt)).mono ?_
      rintro e w3 ⟨rfl, hb3⟩
      have r2 := r1.below hb3 r1.lt
      have y2 := y1.below hb3 y1.lt
      have s2 := s1.below hb3 s1.lt
      have rc : w3.cell? ⟨g2, 0, none⟩ = some (.bool (odB p pre)) := r2.cell 0
      have rf := r2.frozen 0
      have hg2 : w.heap.size ≤ g2 := by omega
      have hkp := (Kp.of hb3 hB.size s1.lt).t ((⟨(Below.refl _ _).setCell (p := ⟨g2, 0, none⟩) hg2 _, Below.heap_setCell w3 ⟨g2, 0, none⟩ (.bool (!odB p pre)) (g2 + 1) (by show g2 + 1 ≠ g2; omega)⟩ : Kp (g2 + 1) w.heap.size w3 (w3.setCell ⟨g2, 0, none⟩ (.bool (!odB p pre)))))
      gi_wp2_with fail
      exact ⟨((keeps_of_below hb3).trans (KeepsOthers.setCell _ _ _)).from _, hkp, ⟨y2.far (p := ⟨g2, 0, none⟩) (by show w.heap.size + 1 ≠ g2; exact y2.ne_ r2 (by decide)) _, by rw [hs3.out]; exact r2.set_ 0 _, s2.far (p := ⟨g2, 0, none⟩) (by show g2 + 1 ≠ g2; omega) _⟩, (hB.trans (hb3.mono hB.size)).setCell (p := ⟨g2, 0, none⟩) hg2 _⟩
  case done =>
    rintro D ys W hD rfl ⟨⟨y1, r1, s1⟩, hB⟩ hK
    have rc : W.cell? ⟨g2, 0, none⟩ = some (.bool (odB p (sidesL l))) := r1.cell 0
    have hwD : w.heap.size ≤ D := by omega
    gi_wp2_with fail
    refine ⟨by simp, .inl ⟨_, _, rfl, run_takeDeferred hK, ?_⟩⟩
    exact ⟨_, results_tmp rfl _ _ _, by rw [hI.out]; rfl, hB.trans (belowK_b (w := w) (Nat.le_refl _) _ D _ _ hwD hK rfl rfl)⟩
  case stop =>
    rintro D cd pre W hD hpre h hK
    exact h.elim
theorem inside_any (z : ByteArray) (A : Option Addr) (n c : Nat) (l : List P2) (p : P2) (w : World) (hR : Pts w w.heap.size A n l) (hm : n ≤ 1100) :
    Calls Try.prog 53 #[arV z A n c, p.V] w fun e W' => e = .returned (.bool (inB l p)) ∧ Below w.heap.size w W' := callsIn_wide.1 (inside_in z A n c l p w hR hm)
/-- what a side adds to the size; as the program sums it up -/
def csS (x : P2 × P2) : Int := wrap64 (wrap64 (x.1.lo * x.2.la) - wrap64 (x.1.la * x.2.lo))
def szK (s : List (P2 × P2)) : Int := s.foldl (fun a x => wrap64 (a + csS x)) 0
theorem szK_snoc (s : List (P2 × P2)) (x : P2 × P2) : szK (s ++ [x]) = wrap64 (szK s + csS x) := by unfold szK; rw [List.foldl_append]; rfl
def szV (z : ByteArray) (l : List P2) : Int := if arOk z l = true then szK (sidesL l) else 0
set_option maxRecDepth 100000 in
set_option maxHeartbeats 6400000 in
theorem size_in (z : ByteArray) (A : Option Addr) (n c : Nat) (l : List P2) (w : World) (hz : z.size ≤ maxLen) (hR : Pts w w.heap.size A n l) (hm : n ≤ maxLen) :
    CallsIn Fence.wide 5 Try.prog 29 #[arV z A n c] w fun e W' => e = .returned (.int .i64 (szV z l)) ∧ Below w.heap.size w W' := by
  have x1 := Blk.new w 34 (arA z A n c)
  have i1 := (BI.start w).alloc (.cells (arA z A n c) 34)
  have hck := acheck_any z A n c w.heap.size l (w.alloc (.cells (arA z A n c) 34)) hz (hR.below i1.b) i1.b.size hm
  refine callsIn_of_wp_marks Try.func29 rfl trivial ?_ rfl
  simp only [Try.ntmps29, List.size_toArray, List.length_cons, List.length_nil, Nat.reduceAdd, Nat.reduceSub, Array.replicate_succ, Array.replicate_zero, List.push_toArray, List.append_toArray, List.nil_append, List.cons_append]
  gi_wp2_with (refine wpListIn_row_g rfl 34 _ rfl _ rfl _ _ _ x1 Try.underlying34 rfl (by kernel_rfl) ?_)
  refine ⟨trivial, ?_⟩
  cases hok : arOk z l
  · have hv : (arE z l != 0) = true := by rw [arE_no hok]; rfl
    have hE := Lib.hid (show szV z l = 0 by unfold szV; rw [hok]; rfl)
    refine (callsIn_wide.2 hck).mono ?_
    rintro e w2 ⟨rfl, hb2⟩
    have i2 := i1.call hb2
    clear hok
    gi_wp2_with fail
    exact ⟨_, results_tmp rfl _ _ _, by rw [hE.out]; rfl, i2⟩
  have hv : (arE z l != 0) = false := by rw [arE_yes hok]; rfl
  have hE := Lib.hid (show szV z l = szK (sidesL l) by unfold szV; rw [hok]; rfl)
  have hn : n ≤ 1100 := by have := (ar_iff.1 hok).2.1; have := hR.1; omega
  refine (callsIn_wide.2 hck).mono ?_
  rintro e w2 ⟨rfl, hb2⟩
  have i2 := i1.call hb2
  have x2 := x1.below hb2 x1.lt
  have x3 := x2.alloc (.cells #[.int .i64 0] 2)
  clear x1 i1 hb2 hck hok
  gi_wp2_with (refine wpListIn_row_g rfl 34 _ rfl _ rfl _ _ _ x3 Try.underlying34 rfl (by kernel_rfl) ?_)
  refine ⟨trivial, (callsIn_wide.2 (asides_any z A n c _)).mono ?_⟩
  rintro e w' ⟨rfl, rfl⟩
  gi_wp2_with fail
  have r0 := (Blk.new w2 2 #[.int .i64 0]).alloc (.cells (arA z A n c) 34)
  have s0 := blk_at (w2.alloc (.cells #[.int .i64 0] 2)) 34 (arA z A n c) (sz1 _ _ rfl)
  have B0 : Below w.heap.size w ((w2.alloc (.cells #[.int .i64 0] 2)).alloc (.cells (arA z A n c) 34)) := (i2.alloc _).alloc _
  have hsz : ((w2.alloc (.cells #[.int .i64 0] 2)).alloc (.cells (arA z A n c) 34)).heap.size = w2.heap.size + 2 := sz1 _ _ (sz1 _ _ rfl)
  have hw2 := i2.b.size
  generalize (w2.alloc (.cells #[.int .i64 0] 2)).alloc (.cells (arA z A n c) 34) = W0 at *
  clear x2 x3 i2
  have hs1 : w.heap.size ≤ W0.heap.size := by omega
  have hs2 : w2.heap.size + 1 < W0.heap.size := by omega
  generalize w2.heap.size = g2 at *
  clear hsz
  refine wpIn_rangeFunc_ownH (α := P2 × P2) (n := 5) rfl (show 1 ≤ 5 by decide) (gf := 83) (lb := #[.pointer (some ⟨g2 + 1, 0, none⟩)]) rfl trivial (enters_of Try.func83 (by kernel_rfl) rfl)
    (sides_stops (5 - 1) (g2 + 1) w.heap.size z A n c l W0 s0 hs1 (hR.below B0) hn) Kp.t (kp_b hs1 hs2) (Below.refl _ _) (fun _ => rfl)
    (fun (pre : List (P2 × P2)) W => (Blk W g2 2 #[.int .i64 (szK pre)] ∧ Blk W (g2 + 1) 34 (arA z A n c)) ∧ Below w.heap.size w W)
    (fun _ _ _ => False)
    (OwnFrom.and (OwnFrom.and (Own.from (blk_own _ _ (fun pre => #[.int .i64 (szK pre)])) _) (Own.from (blk_own _ _ _) _)) (ownFrom_below (Nat.le_refl _) hs1))
    (fun _ _ _ _ _ hs _ _ => hs)
    ⟨⟨r0, s0⟩, B0⟩
    (fun (x : P2 × P2) a' W => ∃ b1 b2, (Blk W b1 23 x.1.A ∧ Blk W b2 23 x.2.A) ∧ a' = { tmps := #[arV z A n c, .pointer (some ⟨w.heap.size, 0, none⟩), .int .i64 0, .pointer (some ⟨g2, 0, none⟩), .pointer (some ⟨b1, 0, none⟩), .pointer (some ⟨b2, 0, none⟩), arV z A n c, .int .i64 (arE z l), .bool false, arV z A n c, .func (.func 83) #[] #[.pointer (some ⟨g2 + 1, 0, none⟩)], x.1.V, x.2.V, undef, undef, undef, undef, undef, undef, undef, undef, undef, undef, undef, undef, undef, undef], defers := [] })
    (fun x a' _ X Y row hs hg hr => by
      obtain ⟨b1, b2, ⟨h1, h2⟩, h3⟩ := hs
      exact ⟨b1, b2, ⟨blk_own b1 23 (fun (_ : Unit) => x.1.A) () X Y row h1 hg (fun r e => (hr r e).2), blk_own b2 23 (fun (_ : Unit) => x.2.A) () X Y row h2 hg (fun r e => (hr r e).2)⟩, h3⟩)
    ?assign ?body ?done ?stop
  case assign =>
    rintro lp pre x W K ⟨⟨r1, s1⟩, hB⟩ hK
    have hb2 : Below W.heap.size W ((W.alloc (.cells x.1.A 23)).alloc (.cells x.2.A 23)) := ((BI.start W).alloc _).alloc _
    gi_wp2_with (first | refine wpListIn_store_new rfl 23 _ _ rfl rfl W.heap.size x.1.A rfl rfl _ #[.int .i64 0, .int .i64 0] W rfl rfl rfl (by kernel_rfl) (by kernel_rfl) ?_ | refine wpListIn_store_new rfl 23 _ _ rfl rfl (W.heap.size + 1) x.2.A rfl rfl _ #[.int .i64 0, .int .i64 0] (W.alloc (.cells x.1.A 23)) rfl (sz1 _ _ rfl).symm rfl (by kernel_rfl) (by kernel_rfl) ?_)
    exact hK _ _ ((keeps_of_below hb2).from _) (Kp.of hb2 hB.size s1.lt) ⟨⟨(r1.alloc _).alloc _, (s1.alloc _).alloc _⟩, hB.trans (hb2.mono hB.size)⟩ ⟨W.heap.size, W.heap.size + 1, ⟨(Blk.new W _ _).alloc _, blk_at _ _ _ (sz1 _ _ rfl)⟩, rfl⟩
  case body =>
    rintro lp pre x a' W hl ⟨r, hr⟩ ⟨⟨r1, s1⟩, hB⟩ ⟨b1, b2, ⟨f1, f2⟩, rfl⟩ hlt
    have rc : W.cell? ⟨g2, 0, none⟩ = some (.int .i64 (szK pre)) := r1.cell 0
    have rf := r1.frozen 0
    have e1 : W.cell? ⟨b1, 0, none⟩ = some (.int .i64 x.1.la) := f1.cell 0
    have e2 : W.cell? ⟨b1, 1, none⟩ = some (.int .i64 x.1.lo) := f1.cell 1
    have e3 : W.cell? ⟨b2, 0, none⟩ = some (.int .i64 x.2.la) := f2.cell 0
    have e4 : W.cell? ⟨b2, 1, none⟩ = some (.int .i64 x.2.lo) := f2.cell 1
    have hg2 : w.heap.size ≤ g2 := by omega
    have hsn := Lib.hid (szK_snoc pre x)
    generalize szK pre = S at *
    gi_wp2_with fail
    exact ⟨(KeepsOthers.setCell _ _ _).from _, ⟨(Below.refl _ _).setCell (p := ⟨g2, 0, none⟩) hg2 _, Below.heap_setCell W ⟨g2, 0, none⟩ _ (g2 + 1) (by show g2 + 1 ≠ g2; omega)⟩, ⟨by rw [hsn.out]; exact r1.set_ 0 _, s1.far (p := ⟨g2, 0, none⟩) (by show g2 + 1 ≠ g2; omega) _⟩, hB.setCell (p := ⟨g2, 0, none⟩) hg2 _⟩
  case done =>
    rintro D ys W hD rfl ⟨⟨r1, s1⟩, hB⟩ hK
    have rc : W.cell? ⟨g2, 0, none⟩ = some (.int .i64 (szK (sidesL l))) := r1.cell 0
    have hwD : w.heap.size ≤ D := by omega
    gi_wp2_with fail
    refine ⟨by simp, .inl ⟨_, _, rfl, run_takeDeferred hK, ?_⟩⟩
    exact ⟨_, results_tmp rfl _ _ _, by rw [hE.out]; rfl, hB.trans (belowK_b (w := w) (Nat.le_refl _) _ D _ _ hwD hK rfl rfl)⟩
  case stop =>
    rintro D cd pre W hD hpre h hK
    exact h.elim
theorem size_any (z : ByteArray) (A : Option Addr) (n c : Nat) (l : List P2) (w : World) (hz : z.size ≤ maxLen) (hR : Pts w w.heap.size A n l) (hm : n ≤ maxLen) :
    Calls Try.prog 29 #[arV z A n c] w fun e W' => e = .returned (.int .i64 (szV z l)) ∧ Below w.heap.size w W' := callsIn_wide.1 (size_in z A n c l w hz hR hm)
end Go.Proofs.Ytoiccljmdplfgaa.Ar
