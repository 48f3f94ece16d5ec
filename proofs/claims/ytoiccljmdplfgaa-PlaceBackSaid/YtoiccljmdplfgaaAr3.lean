/-
  AREAS: the edge, the inside, the size: loops over the sides, walked.
-/
import Derived.Test.YtoiccljmdplfgaaAr2
import Derived.RangeFuncBox
namespace Go.Proofs.Ytoiccljmdplfgaa.Ar
open Go.ChangeShapes Go.WideShapes Go.ChangeAt Go.RowKit Go.Shelf
open Go.Proofs.Ytoiccljmdplfgaa
open Go.Proofs.Ytoiccljmdplfgaa.Wd
open Go.Proofs.Ytoiccljmdplfgaa.Pl
open Go.Proofs.Ytoiccljmdplfgaa.Nv
set_option linter.unusedVariables false
attribute [local go_sem] Oper.semAt_some
theorem blk_own {β : Type} (g : Nat) (t : TypeId) (cs : β → Array Value) : Own (fun s W => Blk W g t (cs s)) := fun s X Y row hs hg hrow =>
  (hg.block g hs.lt (fun e' => by obtain ⟨o, ho, hc⟩ := hrow g e'.symm; rw [show X.heap[g]? = _ from hs] at ho; cases ho; cases hc)).trans hs
theorem kp_b {Bs n0 : Nat} {w : World} (hn : n0 ≤ w.heap.size) (hs : Bs < w.heap.size) (W : World) (l : Nat) (o o' : Obj) (hl : w.heap.size ≤ l) (h : W.heap[l]? = some o) (h1 : o.isCells = false) (h2 : o.isWalk = false) : Kp Bs n0 W (W.putObj l o') :=
  ⟨belowK_b hn W l o o' hl h h1 h2, (grownBy_putObj' W l o').block Bs (by have := (Array.getElem?_eq_some_iff.1 h).1; omega) (fun e => by have := Option.some.inj e; omega)⟩
theorem blk_put {W : World} {g D : Nat} {t : TypeId} {cs : Array Value} {o' : Obj} (h : Blk W g t cs) (hne : g ≠ D) : Blk (W.putObj D o') g t cs :=
  ((grownBy_putObj' W D o').block g h.lt (fun e => hne (Option.some.inj e))).trans h
/-- whether a point is on the edge -/
def edB (l : List P2) (p : P2) : Bool := (sidesL l).any fun s => betV s.1 p s.2
theorem any_pre {α : Type} {f : α → Bool} {pre l : List α} (h : pre <+: l) (h2 : ∃ x ∈ pre, f x = true) : l.any f = true := by
  obtain ⟨x, hx, e⟩ := h2
  exact List.any_eq_true.2 ⟨x, h.subset hx, e⟩
theorem any_no {α : Type} {f : α → Bool} {l : List α} (h : ∀ x ∈ l, f x = false) : l.any f = false := by
  rw [List.any_eq_false]; intro x hx; rw [h x hx]; decide
set_option maxRecDepth 100000 in
set_option maxHeartbeats 6400000 in
theorem edge_in (z : ByteArray) (A : Option Addr) (n c : Nat) (l : List P2) (p : P2) (w : World) (hR : Pts w w.heap.size A n l) (hm : n ≤ 1100) :
    CallsIn Fence.wide 5 Try.prog 58 #[arV z A n c, p.V] w fun e W' => e = .returned (.bool (edB l p)) ∧ Below w.heap.size w W' := by
  have x1 := ((Blk.new w 34 (arA z A n c)).alloc (.cells p.A 23)).alloc (.cells #[.bool false] 4)
  have B1 : Below w.heap.size w (((w.alloc (.cells (arA z A n c) 34)).alloc (.cells p.A 23)).alloc (.cells #[.bool false] 4)) := (((BI.start w).alloc _).alloc _).alloc _
  refine callsIn_of_wp_marks Try.func58 rfl trivial ?_ rfl
  simp only [Try.ntmps58, List.size_toArray, List.length_cons, List.length_nil, Nat.reduceAdd, Nat.reduceSub, Array.replicate_succ, Array.replicate_zero, List.push_toArray, List.append_toArray, List.nil_append, List.cons_append]
  gi_wp2_with (refine wpListIn_row_g rfl 34 _ rfl _ rfl _ _ _ x1 Try.underlying34 rfl (by kernel_rfl) ?_)
  refine ⟨trivial, (callsIn_wide.2 (asides_any z A n c _)).mono ?_⟩
  rintro e w' ⟨rfl, rfl⟩
  gi_wp2_with fail
  have y0 := ((blk_at (w.alloc (.cells (arA z A n c) 34)) 23 p.A (sz1 _ _ rfl)).alloc (.cells #[.bool false] 4)).alloc (.cells (arA z A n c) 34)
  have r0 := (blk_at ((w.alloc (.cells (arA z A n c) 34)).alloc (.cells p.A 23)) 4 #[.bool false] (sz1 _ _ (sz1 _ _ rfl))).alloc (.cells (arA z A n c) 34)
  have s0 := blk_at (((w.alloc (.cells (arA z A n c) 34)).alloc (.cells p.A 23)).alloc (.cells #[.bool false] 4)) 34 (arA z A n c) (sz1 _ _ (sz1 _ _ (sz1 _ _ rfl)))
  have B0 : Below w.heap.size w ((((w.alloc (.cells (arA z A n c) 34)).alloc (.cells p.A 23)).alloc (.cells #[.bool false] 4)).alloc (.cells (arA z A n c) 34)) := ((((BI.start w).alloc _).alloc _).alloc _).alloc _
  have hsz : ((((w.alloc (.cells (arA z A n c) 34)).alloc (.cells p.A 23)).alloc (.cells #[.bool false] 4)).alloc (.cells (arA z A n c) 34)).heap.size = w.heap.size + 4 := sz1 _ _ (sz1 _ _ (sz1 _ _ (sz1 _ _ rfl)))
  generalize (((w.alloc (.cells (arA z A n c) 34)).alloc (.cells p.A 23)).alloc (.cells #[.bool false] 4)).alloc (.cells (arA z A n c) 34) = W0 at *
  clear x1 B1
  have hs1 : w.heap.size ≤ W0.heap.size := by omega
  have hs2 : w.heap.size + 1 + 1 + 1 < W0.heap.size := by omega
  have HSZ := Lib.hid hsz; clear hsz
  refine wpIn_rangeFunc_ownH (α := P2 × P2) (n := 5) rfl (show 1 ≤ 5 by decide) (gf := 83) (lb := #[.pointer (some ⟨w.heap.size + 1 + 1 + 1, 0, none⟩)]) rfl trivial (enters_of Try.func83 (by kernel_rfl) rfl)
    (sides_stops (5 - 1) (w.heap.size + 1 + 1 + 1) w.heap.size z A n c l W0 s0 hs1 (hR.below B0) hm) Kp.t (kp_b hs1 hs2) (Below.refl _ _) (fun _ => rfl)
    (fun (pre : List (P2 × P2)) W => ((Blk W (w.heap.size + 1) 23 p.A ∧ Blk W (w.heap.size + 1 + 1) 4 #[.bool false] ∧ Blk W (w.heap.size + 1 + 1 + 1) 34 (arA z A n c)) ∧ (∀ x ∈ pre, betV x.1 p x.2 = false)) ∧ Below w.heap.size w W)
    (fun cd (pre : List (P2 × P2)) W => ((Blk W (w.heap.size + 1 + 1) 4 #[.bool true]) ∧ (cd = .ret ∧ ∃ x ∈ pre, betV x.1 p x.2 = true)) ∧ Below w.heap.size w W)
    (OwnFrom.and (OwnFrom.and (OwnFrom.and (Own.from (blk_own _ _ _) _) (OwnFrom.and (Own.from (blk_own _ _ _) _) (Own.from (blk_own _ _ _) _))) (ownFrom_pure _ _)) (ownFrom_below (Nat.le_refl _) hs1))
    (fun cd => OwnFrom.and (OwnFrom.and (Own.from (blk_own _ _ _) _) (ownFrom_pure _ _)) (ownFrom_below (Nat.le_refl _) hs1))
    ⟨⟨⟨y0, r0, s0⟩, fun x hx => absurd hx List.not_mem_nil⟩, B0⟩
    (fun (x : P2 × P2) a' W => ∃ b1 b2, (Blk W b1 23 x.1.A ∧ Blk W b2 23 x.2.A) ∧ a' = { tmps := #[arV z A n c, p.V, .pointer (some ⟨w.heap.size, 0, none⟩), .pointer (some ⟨w.heap.size + 1, 0, none⟩), .pointer (some ⟨w.heap.size + 1 + 1, 0, none⟩), .pointer (some ⟨b1, 0, none⟩), .pointer (some ⟨b2, 0, none⟩), arV z A n c, .func (.func 83) #[] #[.pointer (some ⟨w.heap.size + 1 + 1 + 1, 0, none⟩)], x.1.V, x.2.V, undef, undef, undef, undef], defers := [] })
    (fun x a' _ X Y row hs hg hr => by
      obtain ⟨b1, b2, ⟨h1, h2⟩, h3⟩ := hs
      exact ⟨b1, b2, ⟨blk_own b1 23 (fun (_ : Unit) => x.1.A) () X Y row h1 hg (fun r e => (hr r e).2), blk_own b2 23 (fun (_ : Unit) => x.2.A) () X Y row h2 hg (fun r e => (hr r e).2)⟩, h3⟩)
    ?assign ?body ?done ?stop
  case assign =>
    rintro lp pre x W K ⟨⟨⟨y1, r1, s1⟩, hp⟩, hB⟩ hK
    have hb2 : Below W.heap.size W ((W.alloc (.cells x.1.A 23)).alloc (.cells x.2.A 23)) := ((BI.start W).alloc _).alloc _
    gi_wp2_with (first | refine wpListIn_store_new rfl 23 _ _ rfl rfl W.heap.size x.1.A rfl rfl _ #[.int .i64 0, .int .i64 0] W rfl rfl rfl (by kernel_rfl) (by kernel_rfl) ?_ | refine wpListIn_store_new rfl 23 _ _ rfl rfl (W.heap.size + 1) x.2.A rfl rfl _ #[.int .i64 0, .int .i64 0] (W.alloc (.cells x.1.A 23)) rfl (sz1 _ _ rfl).symm rfl (by kernel_rfl) (by kernel_rfl) ?_)
    exact hK _ _ ((keeps_of_below hb2).from _) (Kp.of hb2 hB.size s1.lt) ⟨⟨⟨(y1.alloc _).alloc _, (r1.alloc _).alloc _, (s1.alloc _).alloc _⟩, hp⟩, hB.trans (hb2.mono hB.size)⟩ ⟨W.heap.size, W.heap.size + 1, ⟨(Blk.new W _ _).alloc _, blk_at _ _ _ (sz1 _ _ rfl)⟩, rfl⟩
  case body =>
    rintro lp pre x a' W hl ⟨r, hr⟩ ⟨⟨⟨y1, r1, s1⟩, hp⟩, hB⟩ ⟨b1, b2, ⟨f1, f2⟩, rfl⟩ hlt
    gi_wp2_with (first | refine wpListIn_row_g rfl 23 _ rfl _ rfl _ _ _ f1 Try.underlying23 rfl (by kernel_rfl) ?_ | refine wpListIn_row_g rfl 23 _ rfl _ rfl _ _ _ y1 Try.underlying23 rfl (by kernel_rfl) ?_ | refine wpListIn_row_g rfl 23 _ rfl _ rfl _ _ _ f2 Try.underlying23 rfl (by kernel_rfl) ?_)
    refine ⟨trivial, ?_⟩
    have hbt := between_any x.1 p x.2 W
    cases hbv : betV x.1 p x.2
    · rw [hbv] at hbt
      refine (CallsIn.inRound lp (callsIn_wide.2 hbt)).mono ?_
      rintro e w2 ⟨rfl, hb2⟩
      gi_wp2_with fail
      exact ⟨(keeps_of_below hb2).from _, Kp.of hb2 hB.size s1.lt, ⟨⟨y1.below hb2 y1.lt, r1.below hb2 r1.lt, s1.below hb2 s1.lt⟩, fun x' hx' => by
        rcases List.mem_append.1 hx' with h | h
        · exact hp _ h
        · rw [List.mem_singleton.1 h]; exact hbv⟩, hB.trans (hb2.mono hB.size)⟩
    · rw [hbv] at hbt
      refine (CallsIn.inRound lp (callsIn_wide.2 hbt)).mono ?_
      rintro e w2 ⟨rfl, hb2⟩
      have r2 := r1.below hb2 r1.lt
      have rc : w2.cell? ⟨w.heap.size + 1 + 1, 0, none⟩ = some (.bool false) := r2.cell 0
      have rf := r2.frozen 0
      gi_wp2_with fail
      exact ⟨((keeps_of_below hb2).trans (KeepsOthers.setCell _ _ _)).from _, ⟨r2.set_ 0 (.bool true), rfl, x, List.mem_append.2 (.inr (List.mem_singleton.2 rfl)), hbv⟩, (hB.trans (hb2.mono hB.size)).setCell (p := ⟨w.heap.size + 1 + 1, 0, none⟩) (show w.heap.size ≤ w.heap.size + 1 + 1 by omega) _⟩
  case done =>
    rintro D ys W hD rfl ⟨⟨⟨y1, r1, s1⟩, hp⟩, hB⟩ hK
    have rc : W.cell? ⟨w.heap.size + 1 + 1, 0, none⟩ = some (.bool false) := r1.cell 0
    have rf := r1.frozen 0
    have hDn : w.heap.size + 1 + 1 ≠ D := by have := hs2; omega
    have hwD : w.heap.size ≤ D := by omega
    gi_wp2_with fail
    have hK' := (KeepsOthers.setCell W ⟨w.heap.size + 1 + 1, 0, none⟩ (.bool false)).same D _ hK rfl
    refine ⟨by simp, .inl ⟨_, _, rfl, run_takeDeferred hK', ?_⟩⟩
    have r4 := blk_put (o' := .deferred none) (r1.set_ 0 (.bool false)) hDn
    have rc4 : ((W.setCell ⟨w.heap.size + 1 + 1, 0, none⟩ (.bool false)).putObj D (.deferred none)).cell? ⟨w.heap.size + 1 + 1, 0, none⟩ = some (.bool false) := r4.cell 0
    refine ⟨.bool false, ?_, by rw [show edB l p = false from any_no hp], (hB.setCell (p := ⟨w.heap.size + 1 + 1, 0, none⟩) (show w.heap.size ≤ w.heap.size + 1 + 1 by omega) _).trans (belowK_b (w := w) (Nat.le_refl _) _ D _ _ hwD hK' rfl rfl)⟩
    simp [results, Try.f58, go_sem, rc4]
  case stop =>
    rintro D cd pre W hD hpre ⟨⟨r1, rfl, hx⟩, hB⟩ hK
    have hDn : w.heap.size + 1 + 1 ≠ D := by have := hs2; omega
    have hwD : w.heap.size ≤ D := by omega
    gi_wp2_with fail
    refine ⟨by simp, .inl ⟨_, _, rfl, run_takeDeferred hK, ?_⟩⟩
    have r4 := blk_put (o' := .deferred none) r1 hDn
    have rc4 : (W.putObj D (.deferred none)).cell? ⟨w.heap.size + 1 + 1, 0, none⟩ = some (.bool true) := r4.cell 0
    refine ⟨.bool true, ?_, by rw [show edB l p = true from any_pre hpre hx], hB.trans (belowK_b (w := w) (Nat.le_refl _) _ D _ _ hwD hK rfl rfl)⟩
    simp [results, Try.f58, go_sem, rc4]
theorem edge_any (z : ByteArray) (A : Option Addr) (n c : Nat) (l : List P2) (p : P2) (w : World) (hR : Pts w w.heap.size A n l) (hm : n ≤ 1100) :
    Calls Try.prog 58 #[arV z A n c, p.V] w fun e W' => e = .returned (.bool (edB l p)) ∧ Below w.heap.size w W' := callsIn_wide.1 (edge_in z A n c l p w hR hm)
end Go.Proofs.Ytoiccljmdplfgaa.Ar
