/-
  The document's Text of a footer: walked.
-/
import Derived.Test.YtgdgkgeoigljcaaDoorFoJ
import Derived.Test.YtgdgkgeoigljcaaDoorFoF
import Derived.Test.YtgdgkgeoigljcaaDoorRrM
namespace Go.Proofs.YtgdgkgeoigljcaaDoor.Fo
open Go.ChangeShapes Go.WideShapes Go.ChangeAt Go.RowKit Go.Shelf
open Go.Proofs.YtgdgkgeoigljcaaDoor
open Go.Proofs.YtgdgkgeoigljcaaDoor.Wd
open Go.Proofs.YtgdgkgeoigljcaaDoor.Rec
open Go.Proofs.YtgdgkgeoigljcaaDoor.Tb (Rc)
open Go.Proofs.YtgdgkgeoigljcaaDoor.Ld
open Go.Proofs.YtgdgkgeoigljcaaDoor.Civ (Tab)
set_option linter.unusedVariables false
set_option linter.unusedSimpArgs false
theorem lt10 {n : Nat} (h : n < 10) : n < 100 := by omega
theorem lt60 {n : Nat} (h : n < 60) : n < 100 := by omega
set_option maxRecDepth 100000 in
set_option maxHeartbeats 12800000 in
theorem rtext_no (r : Rc) (a b : ByteArray) (w : World) (hT : Tab w) (hB : r.Bd) (ha : a.size ≤ 1000) (hb0 : b.size ≤ 1000) (hE : foE r (L a) (L b) ≠ 0) :
    Calls Tryd.prog 7 #[r.V, .string a, .string b] w fun e w' => e = .returned (.tuple #[.string ⟨#[]⟩, .int .i64 (foE r (L a) (L b))]) ∧ Below w.heap.size w w' := by
  have iR := (Civ.Inv.start hT).alloc (.cells r.A 26)
  have xR := Blk.new w 26 r.A
  have hck := fun W (h : Tab W) => Rf.rrc_any r.b r.c r.d r.p r.q W h hB
  have hn1 := fun W => rfname_any a W (by unfold maxLen; omega); have hn2 := fun W => rfname_any b W (by unfold maxLen; omega)
  have zn : ∀ W : World, (binOp .eql 24 (.agg (sA r.p)) (.agg #[.int .u16 0, .int .u16 0, .int .u16 0, .int .u16 0, .int .u16 0, .int .u16 0, .int .u16 0, .int .u16 0])).run Tryd.prog W = .ok (.bool r.p.zero) W := fun W => by
    have q := eq_stt r.p St.nil W
    rw [eqS_zero] at q; exact q
  unfold foE at hE
  cases hk : r.ok with
  | false =>
    have HE := Lib.hid (show foE r (L a) (L b) = 2 by unfold foE; rw [hk]; rfl)
    have hck2 : ∀ W, Tab W → Calls Tryd.prog 21 #[r.V] W fun e w' => e = .returned (.int .i64 2) ∧ Below W.heap.size W w' := fun W h => by
      have := hck W h; unfold rcE at this; rw [show rcOk r.b r.c r.d r.p r.q = false from hk] at this; exact this
    clear hck hE hn1 hn2 zn hk
    go_enter Tryd.func7, Tryd.ntmps7
    go_wp2_with (refine wpList_row_g rfl 26 _ rfl _ rfl _ _ _ _ xR Tryd.underlying26 rfl (by kernel_rfl) ?_)
    refine (hck2 _ iR.1).mono ?_; rintro e W1 ⟨rfl, hb⟩
    have i1 := iR.call hb; clear hb iR xR
    go_wp2_with fail
    go_ret2
    exact ⟨by rw [HE.out]; rfl, i1.2⟩
  | true =>
    have hck2 : ∀ W, Tab W → Calls Tryd.prog 21 #[r.V] W fun e w' => e = .returned (.int .i64 0) ∧ Below W.heap.size W w' := fun W h => by
      have := hck W h; unfold rcE at this; rw [show rcOk r.b r.c r.d r.p r.q = true from hk] at this; exact this
    clear hck
    cases hp : (each r.p && each r.q) with
    | false =>
      have HE := Lib.hid (show foE r (L a) (L b) = 3 by unfold foE; rw [hk, if_neg (by decide), hp, if_pos rfl])
      have hw : r.p.y ≠ 0 ∨ (r.p.y = 0 ∧ r.q.y ≠ 0) ∨ (r.p.y = 0 ∧ r.q.y = 0 ∧ r.p.u ≠ 0) ∨ (r.p.y = 0 ∧ r.q.y = 0 ∧ r.p.u = 0 ∧ r.q.u ≠ 0) := by
        unfold each at hp
        by_cases k1 : r.p.y = 0 <;> by_cases k2 : r.q.y = 0 <;> by_cases k3 : r.p.u = 0 <;> by_cases k4 : r.q.u = 0 <;> simp_all
      clear hE hn1 hn2 zn hk hp
      rcases hw with h0 | ⟨h0, h1⟩ | ⟨h0, h1, h2⟩ | ⟨h0, h1, h2, h3⟩
      · skip
        have f0 : (r.p.y != 0) = true := by rw [bne_iff_ne]; exact h0
        clear h0
        have HFs := Lib.hid (And.intro f0 (True.intro))
        clear f0
        go_enter Tryd.func7, Tryd.ntmps7
        go_wp2_with (refine wpList_row_g rfl 26 _ rfl _ rfl _ _ _ _ xR Tryd.underlying26 rfl (by kernel_rfl) ?_)
        refine (hck2 _ iR.1).mono ?_; rintro e W1 ⟨rfl, hb⟩
        have i1 := iR.call hb; have x1 := xR.below hb xR.lt; clear hb iR xR hck2
        have e0 : W1.cell? ⟨w.heap.size, 3, none⟩ = some (.int .u16 (r.p.y)) := x1.cell 3
        have e1 : W1.cell? ⟨w.heap.size, 11, none⟩ = some (.int .u16 (r.q.y)) := x1.cell 11
        have e2 : W1.cell? ⟨w.heap.size, 10, none⟩ = some (.int .u16 (r.p.u)) := x1.cell 10
        have e3 : W1.cell? ⟨w.heap.size, 18, none⟩ = some (.int .u16 (r.q.u)) := x1.cell 18
        obtain ⟨f0, -⟩ := HFs.out; clear HFs
        generalize r.p.y = q0 at *
        generalize r.q.y = q1 at *
        generalize r.p.u = q2 at *
        generalize r.q.u = q3 at *
        go_wp2_with fail
        go_ret2
        exact ⟨by rw [HE.out]; rfl, i1.2⟩
      · skip
        have f0 : (r.p.y != 0) = false := by rw [h0]; rfl
        have f1 : (r.q.y != 0) = true := by rw [bne_iff_ne]; exact h1
        clear h0 h1
        have HFs := Lib.hid (And.intro f0 (And.intro f1 (True.intro)))
        clear f0 f1
        go_enter Tryd.func7, Tryd.ntmps7
        go_wp2_with (refine wpList_row_g rfl 26 _ rfl _ rfl _ _ _ _ xR Tryd.underlying26 rfl (by kernel_rfl) ?_)
        refine (hck2 _ iR.1).mono ?_; rintro e W1 ⟨rfl, hb⟩
        have i1 := iR.call hb; have x1 := xR.below hb xR.lt; clear hb iR xR hck2
        have e0 : W1.cell? ⟨w.heap.size, 3, none⟩ = some (.int .u16 (r.p.y)) := x1.cell 3
        have e1 : W1.cell? ⟨w.heap.size, 11, none⟩ = some (.int .u16 (r.q.y)) := x1.cell 11
        have e2 : W1.cell? ⟨w.heap.size, 10, none⟩ = some (.int .u16 (r.p.u)) := x1.cell 10
        have e3 : W1.cell? ⟨w.heap.size, 18, none⟩ = some (.int .u16 (r.q.u)) := x1.cell 18
        obtain ⟨f0, f1, -⟩ := HFs.out; clear HFs
        generalize r.p.y = q0 at *
        generalize r.q.y = q1 at *
        generalize r.p.u = q2 at *
        generalize r.q.u = q3 at *
        go_wp2_with fail
        go_ret2
        exact ⟨by rw [HE.out]; rfl, i1.2⟩
      · skip
        have f0 : (r.p.y != 0) = false := by rw [h0]; rfl
        have f1 : (r.q.y != 0) = false := by rw [h1]; rfl
        have f2 : (r.p.u != 0) = true := by rw [bne_iff_ne]; exact h2
        clear h0 h1 h2
        have HFs := Lib.hid (And.intro f0 (And.intro f1 (And.intro f2 (True.intro))))
        clear f0 f1 f2
        go_enter Tryd.func7, Tryd.ntmps7
        go_wp2_with (refine wpList_row_g rfl 26 _ rfl _ rfl _ _ _ _ xR Tryd.underlying26 rfl (by kernel_rfl) ?_)
        refine (hck2 _ iR.1).mono ?_; rintro e W1 ⟨rfl, hb⟩
        have i1 := iR.call hb; have x1 := xR.below hb xR.lt; clear hb iR xR hck2
        have e0 : W1.cell? ⟨w.heap.size, 3, none⟩ = some (.int .u16 (r.p.y)) := x1.cell 3
        have e1 : W1.cell? ⟨w.heap.size, 11, none⟩ = some (.int .u16 (r.q.y)) := x1.cell 11
        have e2 : W1.cell? ⟨w.heap.size, 10, none⟩ = some (.int .u16 (r.p.u)) := x1.cell 10
        have e3 : W1.cell? ⟨w.heap.size, 18, none⟩ = some (.int .u16 (r.q.u)) := x1.cell 18
        obtain ⟨f0, f1, f2, -⟩ := HFs.out; clear HFs
        generalize r.p.y = q0 at *
        generalize r.q.y = q1 at *
        generalize r.p.u = q2 at *
        generalize r.q.u = q3 at *
        go_wp2_with fail
        go_ret2
        exact ⟨by rw [HE.out]; rfl, i1.2⟩
      · skip
        have f0 : (r.p.y != 0) = false := by rw [h0]; rfl
        have f1 : (r.q.y != 0) = false := by rw [h1]; rfl
        have f2 : (r.p.u != 0) = false := by rw [h2]; rfl
        have f3 : (r.q.u != 0) = true := by rw [bne_iff_ne]; exact h3
        clear h0 h1 h2 h3
        have HFs := Lib.hid (And.intro f0 (And.intro f1 (And.intro f2 (And.intro f3 (True.intro)))))
        clear f0 f1 f2 f3
        go_enter Tryd.func7, Tryd.ntmps7
        go_wp2_with (refine wpList_row_g rfl 26 _ rfl _ rfl _ _ _ _ xR Tryd.underlying26 rfl (by kernel_rfl) ?_)
        refine (hck2 _ iR.1).mono ?_; rintro e W1 ⟨rfl, hb⟩
        have i1 := iR.call hb; have x1 := xR.below hb xR.lt; clear hb iR xR hck2
        have e0 : W1.cell? ⟨w.heap.size, 3, none⟩ = some (.int .u16 (r.p.y)) := x1.cell 3
        have e1 : W1.cell? ⟨w.heap.size, 11, none⟩ = some (.int .u16 (r.q.y)) := x1.cell 11
        have e2 : W1.cell? ⟨w.heap.size, 10, none⟩ = some (.int .u16 (r.p.u)) := x1.cell 10
        have e3 : W1.cell? ⟨w.heap.size, 18, none⟩ = some (.int .u16 (r.q.u)) := x1.cell 18
        obtain ⟨f0, f1, f2, f3, -⟩ := HFs.out; clear HFs
        generalize r.p.y = q0 at *
        generalize r.q.y = q1 at *
        generalize r.p.u = q2 at *
        generalize r.q.u = q3 at *
        go_wp2_with fail
        go_ret2
        exact ⟨by rw [HE.out]; rfl, i1.2⟩
    | true =>
      rw [Bool.and_eq_true] at hp
      have HY := Lib.hid (show (r.p.y = 0 ∧ r.p.u = 0) ∧ (r.q.y = 0 ∧ r.q.u = 0) by unfold each at hp; simpa using hp)
      have hE2 : foE r (L a) (L b) = if nameB (L a) = false ∨ (r.p.zero = false ∧ nameB (L b) = false) ∨ (r.p.zero = true ∧ L b ≠ []) then 7 else 0 := by unfold foE; rw [hk, if_neg (by decide), hp.1, hp.2, if_neg (by decide)]
      have hE3 := hE; rw [show (if r.ok = false then (2 : Int) else if (each r.p && each r.q) = false then 3 else if nameB (L a) = false ∨ (r.p.zero = false ∧ nameB (L b) = false) ∨ (r.p.zero = true ∧ L b ≠ []) then 7 else 0) = foE r (L a) (L b) from rfl, hE2] at hE3
      clear hE
      cases ha1 : nameB (L a) with
      | false =>
        have HE := Lib.hid (hE2.trans (if_pos (.inl ha1)))
        rw [ha1] at hn1; clear hE2 hE3 hn2 ha1 hp hk
        cases hz : r.p.zero with
        | false =>
          rw [hz] at zn; clear hz
          go_enter Tryd.func7, Tryd.ntmps7
          go_wp2_with (refine wpList_row_g rfl 26 _ rfl _ rfl _ _ _ _ xR Tryd.underlying26 rfl (by kernel_rfl) ?_)
          refine (hck2 _ iR.1).mono ?_; rintro e W1 ⟨rfl, hb⟩
          have i1 := iR.call hb; have x1 := xR.below hb xR.lt; clear hb iR xR hck2
          have e0 : W1.cell? ⟨w.heap.size, 3, none⟩ = some (.int .u16 0) := by have := x1.cell 3; rw [show (r.A : Array Value)[3]? = some (.int .u16 (r.p.y)) from rfl, HY.out.1.1] at this; exact this
          have e1 : W1.cell? ⟨w.heap.size, 11, none⟩ = some (.int .u16 0) := by have := x1.cell 11; rw [show (r.A : Array Value)[11]? = some (.int .u16 (r.q.y)) from rfl, HY.out.2.1] at this; exact this
          have e2 : W1.cell? ⟨w.heap.size, 10, none⟩ = some (.int .u16 0) := by have := x1.cell 10; rw [show (r.A : Array Value)[10]? = some (.int .u16 (r.p.u)) from rfl, HY.out.1.2] at this; exact this
          have e3 : W1.cell? ⟨w.heap.size, 18, none⟩ = some (.int .u16 0) := by have := x1.cell 18; rw [show (r.A : Array Value)[18]? = some (.int .u16 (r.q.u)) from rfl, HY.out.2.2] at this; exact this
          clear HY
          go_upto_region 5 with fail
          go_wp2_with (refine wpList_seg_g rfl 24 _ rfl _ 3 (sA r.p) rfl _ _ _ _ x1 Tryd.underlying24 rfl (by kernel_rfl) (by kernel_rfl) ?_)
          refine (hn1 _).mono ?_; rintro e W2 ⟨rfl, rfl⟩
          go_wp2_with fail
          go_ret2
          exact ⟨by rw [HE.out]; rfl, i1.2⟩
        | true =>
          rw [hz] at zn; clear hz
          go_enter Tryd.func7, Tryd.ntmps7
          go_wp2_with (refine wpList_row_g rfl 26 _ rfl _ rfl _ _ _ _ xR Tryd.underlying26 rfl (by kernel_rfl) ?_)
          refine (hck2 _ iR.1).mono ?_; rintro e W1 ⟨rfl, hb⟩
          have i1 := iR.call hb; have x1 := xR.below hb xR.lt; clear hb iR xR hck2
          have e0 : W1.cell? ⟨w.heap.size, 3, none⟩ = some (.int .u16 0) := by have := x1.cell 3; rw [show (r.A : Array Value)[3]? = some (.int .u16 (r.p.y)) from rfl, HY.out.1.1] at this; exact this
          have e1 : W1.cell? ⟨w.heap.size, 11, none⟩ = some (.int .u16 0) := by have := x1.cell 11; rw [show (r.A : Array Value)[11]? = some (.int .u16 (r.q.y)) from rfl, HY.out.2.1] at this; exact this
          have e2 : W1.cell? ⟨w.heap.size, 10, none⟩ = some (.int .u16 0) := by have := x1.cell 10; rw [show (r.A : Array Value)[10]? = some (.int .u16 (r.p.u)) from rfl, HY.out.1.2] at this; exact this
          have e3 : W1.cell? ⟨w.heap.size, 18, none⟩ = some (.int .u16 0) := by have := x1.cell 18; rw [show (r.A : Array Value)[18]? = some (.int .u16 (r.q.u)) from rfl, HY.out.2.2] at this; exact this
          clear HY
          go_upto_region 5 with fail
          go_wp2_with (refine wpList_seg_g rfl 24 _ rfl _ 3 (sA r.p) rfl _ _ _ _ x1 Tryd.underlying24 rfl (by kernel_rfl) (by kernel_rfl) ?_)
          refine (hn1 _).mono ?_; rintro e W2 ⟨rfl, rfl⟩
          go_wp2_with fail
          go_ret2
          exact ⟨by rw [HE.out]; rfl, i1.2⟩
      | true =>
        rw [ha1] at hn1 hE2 hE3
        cases hz : r.p.zero with
        | true =>
          rw [hz] at zn hE2 hE3
          have hbe : L b ≠ [] := by intro e; rw [e] at hE3; simp at hE3
          have HE := Lib.hid (hE2.trans (if_pos (.inr (.inr ⟨rfl, hbe⟩))))
          have hbe2 : (b.toList == []) = false := by rw [Lib.toList_data, beq_eq_false_iff_ne]; exact hbe
          have hbe3 : b.toList.isEmpty = false := by
            cases q : b.toList with
            | nil => rw [q] at hbe2; cases hbe2
            | cons _ _ => rfl
          clear hE2 hE3 hn2 ha1 hp hk hz hbe
          go_enter Tryd.func7, Tryd.ntmps7
          go_wp2_with (refine wpList_row_g rfl 26 _ rfl _ rfl _ _ _ _ xR Tryd.underlying26 rfl (by kernel_rfl) ?_)
          refine (hck2 _ iR.1).mono ?_; rintro e W1 ⟨rfl, hb⟩
          have i1 := iR.call hb; have x1 := xR.below hb xR.lt; clear hb iR xR hck2
          have e0 : W1.cell? ⟨w.heap.size, 3, none⟩ = some (.int .u16 0) := by have := x1.cell 3; rw [show (r.A : Array Value)[3]? = some (.int .u16 (r.p.y)) from rfl, HY.out.1.1] at this; exact this
          have e1 : W1.cell? ⟨w.heap.size, 11, none⟩ = some (.int .u16 0) := by have := x1.cell 11; rw [show (r.A : Array Value)[11]? = some (.int .u16 (r.q.y)) from rfl, HY.out.2.1] at this; exact this
          have e2 : W1.cell? ⟨w.heap.size, 10, none⟩ = some (.int .u16 0) := by have := x1.cell 10; rw [show (r.A : Array Value)[10]? = some (.int .u16 (r.p.u)) from rfl, HY.out.1.2] at this; exact this
          have e3 : W1.cell? ⟨w.heap.size, 18, none⟩ = some (.int .u16 0) := by have := x1.cell 18; rw [show (r.A : Array Value)[18]? = some (.int .u16 (r.q.u)) from rfl, HY.out.2.2] at this; exact this
          clear HY
          go_upto_region 5 with fail
          go_wp2_with (refine wpList_seg_g rfl 24 _ rfl _ 3 (sA r.p) rfl _ _ _ _ x1 Tryd.underlying24 rfl (by kernel_rfl) (by kernel_rfl) ?_)
          refine (hn1 _).mono ?_; rintro e W2 ⟨rfl, rfl⟩
          go_wp2_with fail
          go_ret2
          exact ⟨by rw [HE.out]; rfl, i1.2⟩
        | false =>
          rw [hz] at zn hE2 hE3
          have hb1 : nameB (L b) = false := by cases q : nameB (L b) with | false => rfl | true => rw [q] at hE3; simp at hE3
          have HE := Lib.hid (hE2.trans (if_pos (.inr (.inl ⟨rfl, hb1⟩))))
          rw [hb1] at hn2; clear hE2 hE3 ha1 hp hk hz hb1
          go_enter Tryd.func7, Tryd.ntmps7
          go_wp2_with (refine wpList_row_g rfl 26 _ rfl _ rfl _ _ _ _ xR Tryd.underlying26 rfl (by kernel_rfl) ?_)
          refine (hck2 _ iR.1).mono ?_; rintro e W1 ⟨rfl, hb⟩
          have i1 := iR.call hb; have x1 := xR.below hb xR.lt; clear hb iR xR hck2
          have e0 : W1.cell? ⟨w.heap.size, 3, none⟩ = some (.int .u16 0) := by have := x1.cell 3; rw [show (r.A : Array Value)[3]? = some (.int .u16 (r.p.y)) from rfl, HY.out.1.1] at this; exact this
          have e1 : W1.cell? ⟨w.heap.size, 11, none⟩ = some (.int .u16 0) := by have := x1.cell 11; rw [show (r.A : Array Value)[11]? = some (.int .u16 (r.q.y)) from rfl, HY.out.2.1] at this; exact this
          have e2 : W1.cell? ⟨w.heap.size, 10, none⟩ = some (.int .u16 0) := by have := x1.cell 10; rw [show (r.A : Array Value)[10]? = some (.int .u16 (r.p.u)) from rfl, HY.out.1.2] at this; exact this
          have e3 : W1.cell? ⟨w.heap.size, 18, none⟩ = some (.int .u16 0) := by have := x1.cell 18; rw [show (r.A : Array Value)[18]? = some (.int .u16 (r.q.u)) from rfl, HY.out.2.2] at this; exact this
          clear HY
          go_upto_region 5 with fail
          go_wp2_with (refine wpList_seg_g rfl 24 _ rfl _ 3 (sA r.p) rfl _ _ _ _ x1 Tryd.underlying24 rfl (by kernel_rfl) (by kernel_rfl) ?_)
          refine (hn1 _).mono ?_; rintro e W2 ⟨rfl, rfl⟩
          go_wp2_with fail
          refine (hn2 _).mono ?_; rintro e W2 ⟨rfl, rfl⟩
          go_wp2_with fail
          go_ret2
          exact ⟨by rw [HE.out]; rfl, i1.2⟩
theorem tx_mk {r : Rc} {w0 W : World} {g n : Nat} (h : Blk W g 26 r.A) (hb : Below n w0 W) :
    ldT 24 (.pointer (some ⟨g, 11, none⟩)) W = some (sA r.q) ∧ ldT 24 (.pointer (some ⟨g, 3, none⟩)) W = some (sA r.p) ∧ (Blk W g 26 r.A ∧ Below n w0 W) :=
  ⟨ldT_of (ld_seg (k := 11) h Tryd.underlying24 rfl (by kernel_rfl) (by kernel_rfl)), ldT_of (ld_seg (k := 3) h Tryd.underlying24 rfl (by kernel_rfl) (by kernel_rfl)), h, hb⟩
theorem tx_on {r : Rc} {w0 W W2 : World} {g : Nat} (h : ldT 24 (.pointer (some ⟨g, 11, none⟩)) W = some (sA r.q) ∧ ldT 24 (.pointer (some ⟨g, 3, none⟩)) W = some (sA r.p) ∧ (Blk W g 26 r.A ∧ Below w0.heap.size w0 W)) (hbl : Below W.heap.size W W2) :
    ldT 24 (.pointer (some ⟨g, 11, none⟩)) W2 = some (sA r.q) ∧ ldT 24 (.pointer (some ⟨g, 3, none⟩)) W2 = some (sA r.p) ∧ (Blk W2 g 26 r.A ∧ Below w0.heap.size w0 W2) :=
  tx_mk (h.2.2.1.below hbl h.2.2.1.lt) (h.2.2.2.trans (hbl.mono h.2.2.2.size))
attribute [local go_sem ↓] ldS_sem
attribute [local go_sem] ldSem_run
set_option maxRecDepth 100000 in
set_option maxHeartbeats 12800000 in
theorem rtext_ok (r : Rc) (a b : ByteArray) (w : World) (hT : Tab w) (hB : r.Bd) (ha : a.size ≤ 1000) (hb0 : b.size ≤ 1000) (hE : foE r (L a) (L b) = 0) :
    Calls Tryd.prog 7 #[r.V, .string a, .string b] w fun e w' => e = .returned (.tuple #[.string (B (foT r (L a) (L b))), .int .i64 0]) ∧ Below w.heap.size w w' := by
  obtain ⟨hk, hp1, hq1, ha1, hb1, hb2⟩ := foE_parts hE
  obtain ⟨hzz, hcp, hcq, hstd, hdst⟩ := ok_parts hk
  have iR := (Civ.Inv.start hT).alloc (.cells r.A 26)
  have xR := Blk.new w 26 r.A
  have hck2 : ∀ W, Tab W → Calls Tryd.prog 21 #[r.V] W fun e w' => e = .returned (.int .i64 0) ∧ Below W.heap.size W w' := fun W h => by
    have := Rf.rrc_any r.b r.c r.d r.p r.q W h hB; unfold rcE at this; rw [show rcOk r.b r.c r.d r.p r.q = true from hk] at this; exact this
  have HY := Lib.hid (show (r.p.y = 0 ∧ r.p.u = 0) ∧ (r.q.y = 0 ∧ r.q.u = 0) by unfold each at hp1 hq1; simp at hp1 hq1; exact ⟨hp1, hq1⟩)
  have hn1 := fun W => rfname_any a W (by unfold maxLen; omega)
  rw [ha1] at hn1
  have zn : ∀ W : World, (binOp .eql 24 (.agg (sA r.p)) (.agg #[.int .u16 0, .int .u16 0, .int .u16 0, .int .u16 0, .int .u16 0, .int .u16 0, .int .u16 0, .int .u16 0])).run Tryd.prog W = .ok (.bool r.p.zero) W := fun W => by
    have q := eq_stt r.p St.nil W
    rw [eqS_zero] at q; exact q
  have hoff : ∀ W, Calls Tryd.prog 22 #[r.V] W fun e w' => e = .returned (.tuple #[.int .i64 r.std, .int .i64 r.dst]) ∧ Below W.heap.size W w' := fun W => Rf.roffs_any r.b r.c r.d r.p r.q W hB
  have LA := name_len (L a); have LB := name_len (L b); rw [L_len] at LA LB
  have LO := off_len r.std; have LD := off_len r.dst; have LP := st_len r.p; have LQ := st_len r.q
  have hna := fun W => rnam_any a W (by omega)
  have hnb := fun W => rnam_any b W (by omega)
  have hof1 := fun W => roff40 r.std W hstd (mod60 _ _)
  have hof2 := fun W => roff40 r.dst W hdst (mod60 _ _)
  have z1 : (B (nameT (L a))).size ≤ 1002 := by rw [B_len]; omega
  have z2 : (B (nameT (L b))).size ≤ 1002 := by rw [B_len]; omega
  have z3 : (B (offT r.std)).size ≤ 6 := by rw [B_len]; exact LO
  have z4 : (B (offT r.dst)).size ≤ 6 := by rw [B_len]; exact LD
  cases hz : r.p.zero with
  | true =>
    have HR0 : B (foT r (L a) (L b)) = B (nameT (L a)) ++ B (offT r.std) := by unfold foT; rw [if_pos hz]; apply ByteArray.ext; simp [ByteArray.data_append]
    have hbe := hb2 hz
    have hb0 : b = ⟨#[]⟩ := by rw [← B_L b, hbe]
    subst hb0
    rw [hz] at zn; clear hz hzz hcp hcq hk hp1 hq1 ha1 hbe hb2 hb1 hE hof2 hnb z2 z4 LA LB LO LD LP LQ
    generalize B (foT r (L a) (L (⟨#[]⟩ : ByteArray))) = RR at *
    generalize B (nameT (L a)) = s1 at *
    generalize B (offT r.std) = s2 at *
    have HR := Lib.hid HR0; clear HR0
    go_enter Tryd.func7, Tryd.ntmps7
    go_wp2_with (refine wpList_row_g rfl 26 _ rfl _ rfl _ _ _ _ xR Tryd.underlying26 rfl (by kernel_rfl) ?_)
    refine (hck2 _ iR.1).mono ?_; rintro e W1 ⟨rfl, hb⟩
    have i1 := iR.call hb; have x1 := xR.below hb xR.lt; clear hb iR xR hck2
    have e0 : W1.cell? ⟨w.heap.size, 3, none⟩ = some (.int .u16 0) := by have := x1.cell 3; rw [show (r.A : Array Value)[3]? = some (.int .u16 (r.p.y)) from rfl, HY.out.1.1] at this; exact this
    have e1 : W1.cell? ⟨w.heap.size, 11, none⟩ = some (.int .u16 0) := by have := x1.cell 11; rw [show (r.A : Array Value)[11]? = some (.int .u16 (r.q.y)) from rfl, HY.out.2.1] at this; exact this
    have e2 : W1.cell? ⟨w.heap.size, 10, none⟩ = some (.int .u16 0) := by have := x1.cell 10; rw [show (r.A : Array Value)[10]? = some (.int .u16 (r.p.u)) from rfl, HY.out.1.2] at this; exact this
    have e3 : W1.cell? ⟨w.heap.size, 18, none⟩ = some (.int .u16 0) := by have := x1.cell 18; rw [show (r.A : Array Value)[18]? = some (.int .u16 (r.q.u)) from rfl, HY.out.2.2] at this; exact this
    clear HY
    go_upto_region 5 with fail
    go_wp2_with (refine wpList_seg_g rfl 24 _ rfl _ 3 (sA r.p) rfl _ _ _ _ x1 Tryd.underlying24 rfl (by kernel_rfl) (by kernel_rfl) ?_)
    refine (hn1 _).mono ?_; rintro e W2 ⟨rfl, rfl⟩
    clear zn e0 e1 e2 e3
    go_wp2_with (refine wpList_row_g rfl 26 _ rfl _ rfl _ _ _ _ x1 Tryd.underlying26 rfl (by kernel_rfl) ?_)
    refine (hoff _).mono ?_; rintro e W3 ⟨rfl, hb⟩
    have i3 := i1.call hb; clear hb i1 x1
    go_wp2_with fail
    refine (hna _).mono ?_; rintro e W4 ⟨rfl, rfl⟩
    go_wp2_with fail
    refine (hof1 _).mono ?_; rintro e W5 ⟨rfl, hb⟩
    have i5 := i3.call hb; clear hb i3
    go_wp2_with fail
    go_ret2
    exact ⟨by rw [HR.out]; rfl, i5.2⟩
  | false =>
    have hq : r.q.zero = false := by rw [← q_zero hk]; exact hz
    obtain ⟨_, _, _, hBp, hBq⟩ := hB
    obtain ⟨pm, pd, pv, ph, pi, ps, np⟩ := ns_of hBp hz hcp hp1
    obtain ⟨qm, qd, qv, qh, qi, qs, nq⟩ := ns_of hBq hq hcq hq1
    have hs1 := fun W => rst40 pm pv pd ph pi ps W np.m (lt10 np.d) (lt10 np.v) np.h (lt60 np.i) (lt60 np.s)
    have hs2 := fun W => rst40 qm qv qd qh qi qs W nq.m (lt10 nq.d) (lt10 nq.v) nq.h (lt60 nq.i) (lt60 nq.s)
    rw [← np.x] at hs1; rw [← nq.x] at hs2
    clear np nq hBp hBq
    have hn2 := fun W => rfname_any b W (by unfold maxLen; omega)
    rw [hb1 hz] at hn2
    have z5 : (B (stT r.p)).size ≤ 18 := by rw [B_len]; exact LP
    have z6 : (B (stT r.q)).size ≤ 18 := by rw [B_len]; exact LQ
    have wq : IntKind.i64.wrap (r.std + 3600) = r.std + 3600 := by simp [IntKind.wrap, IntKind.bits, IntKind.signed]; omega
    by_cases hd : r.dst = r.std + 3600
    · skip
      have HR0 : B (foT r (L a) (L b)) = B (nameT (L a)) ++ B (offT r.std) ++ B (nameT (L b)) ++ ⟨#[44]⟩ ++ B (stT r.q) ++ ⟨#[44]⟩ ++ B (stT r.p) := by
        unfold foT; rw [if_neg (by rw [hz]; decide), if_pos hd]; apply ByteArray.ext; simp [ByteArray.data_append]
      have hde : (r.dst != r.std + 3600) = false := by rw [hd]; simp
      rw [hz] at zn; clear hd hz hb2 hb1 hE LA LB LO LD LP LQ hq hcp hcq hp1 hq1 hzz hk ha1
      generalize B (foT r (L a) (L b)) = RR at *
      generalize B (nameT (L a)) = s1 at *
      generalize B (offT r.std) = s2 at *
      generalize B (nameT (L b)) = s3 at *
      generalize B (offT r.dst) = s4 at *
      generalize B (stT r.q) = s5 at *
      generalize B (stT r.p) = s6 at *
      have HR := Lib.hid HR0; clear HR0
      go_enter Tryd.func7, Tryd.ntmps7
      go_wp2_with (refine wpList_row_g rfl 26 _ rfl _ rfl _ _ _ _ xR Tryd.underlying26 rfl (by kernel_rfl) ?_)
      refine (hck2 _ iR.1).mono ?_; rintro e W1 ⟨rfl, hb⟩
      have i1 := iR.call hb; have x1 := xR.below hb xR.lt; clear hb iR xR hck2
      have e0 : W1.cell? ⟨w.heap.size, 3, none⟩ = some (.int .u16 0) := by have := x1.cell 3; rw [show (r.A : Array Value)[3]? = some (.int .u16 (r.p.y)) from rfl, HY.out.1.1] at this; exact this
      have e1 : W1.cell? ⟨w.heap.size, 11, none⟩ = some (.int .u16 0) := by have := x1.cell 11; rw [show (r.A : Array Value)[11]? = some (.int .u16 (r.q.y)) from rfl, HY.out.2.1] at this; exact this
      have e2 : W1.cell? ⟨w.heap.size, 10, none⟩ = some (.int .u16 0) := by have := x1.cell 10; rw [show (r.A : Array Value)[10]? = some (.int .u16 (r.p.u)) from rfl, HY.out.1.2] at this; exact this
      have e3 : W1.cell? ⟨w.heap.size, 18, none⟩ = some (.int .u16 0) := by have := x1.cell 18; rw [show (r.A : Array Value)[18]? = some (.int .u16 (r.q.u)) from rfl, HY.out.2.2] at this; exact this
      clear HY
      go_upto_region 5 with fail
      go_wp2_with (refine wpList_seg_g rfl 24 _ rfl _ 3 (sA r.p) rfl _ _ _ _ x1 Tryd.underlying24 rfl (by kernel_rfl) (by kernel_rfl) ?_)
      refine (hn1 _).mono ?_; rintro e W2 ⟨rfl, rfl⟩
      clear zn e0 e1 e2 e3
      go_wp2_with fail
      refine (hn2 _).mono ?_; rintro e W2 ⟨rfl, rfl⟩
      go_wp2_with (refine wpList_row_g rfl 26 _ rfl _ rfl _ _ _ _ x1 Tryd.underlying26 rfl (by kernel_rfl) ?_)
      refine (hoff _).mono ?_; rintro e W3 ⟨rfl, hb⟩
      have i3 := i1.call hb; have x3 := x1.below hb x1.lt; clear hb i1 x1
      go_wp2_with fail
      refine (hna _).mono ?_; rintro e W4 ⟨rfl, rfl⟩
      go_wp2_with fail
      refine (hof1 _).mono ?_; rintro e W5 ⟨rfl, hb⟩
      have i5 := i3.call hb; have x5 := x3.below hb x3.lt; clear hb i3 x3
      go_wp2_with fail
      refine (hnb _).mono ?_; rintro e W4 ⟨rfl, rfl⟩
      go_upto_region 15 with fail
      clear hn1 hn2 hoff hna hnb hof1 hof2 hT
      have k0 : ¬ 9223372036854775807 < s1.size + s2.size + s3.size + 1 := by omega
      have k1 : ¬ 9223372036854775807 < s1.size + s2.size + s3.size + 1 + s5.size := by omega
      have k2 : ¬ 9223372036854775807 < s1.size + s2.size + s3.size + 1 + s5.size + 1 := by omega
      have k3 : ¬ 9223372036854775807 < s1.size + s2.size + s3.size + 1 + s5.size + 1 + s6.size := by omega
      have HV := Lib.hid (show Value.tuple #[.string (s1 ++ s2 ++ s3 ++ ⟨#[44]⟩ ++ s5 ++ ⟨#[44]⟩ ++ s6), .int .i64 0] = .tuple #[.string RR, .int .i64 0] by rw [HR.out])
      have x6 : Blk W4.drew w.heap.size 26 r.A := x5
      refine wp_region_held_drew (S := fun w' => ldT 24 (.pointer (some ⟨w.heap.size, 11, none⟩)) w' = some (sA r.q) ∧ ldT 24 (.pointer (some ⟨w.heap.size, 3, none⟩)) w' = some (sA r.p) ∧ (Blk w' w.heap.size 26 r.A ∧ Below w.heap.size w w')) (by kernel_rfl) (tx_mk x6 i5.2.drew) (fun hHeld => ?_)
      refine wpAnyH_take (i := 0) (oi := { dst := some 84, op := Op.move (Operand.tmp 11), type := 9, pos := "ref.go:86", after := #[], guard := none }) (v := ?_) rfl (by kernel_rfl) (by kernel_rfl) (by kernel_rfl) (fun _ _ _ h => h) (Or.inl ⟨by rfl, ?_⟩) hHeld ?_
      rotate_left
      · intro w hSw
        try dsimp only at hSw
        go_simp
        try with_reducible rfl
      try simp only [Act.put, List.setIfInBounds_toArray, List.set_cons_zero, List.set_cons_succ]
      refine wpAnyH_take (i := 1) (oi := { dst := some 85, op := Op.binOp BinOp.add 9 (Operand.tmp 84) (Operand.const (Value.string { data := #[44] })) 9, type := 9, pos := "ref.go:86", after := #[{ on := 0, ground := Ground.data }], guard := none }) (v := ?_) rfl (by kernel_rfl) (by kernel_rfl) (by kernel_rfl) (fun _ _ _ h => h) (Or.inl ⟨by rfl, ?_⟩) hHeld ?_
      rotate_left
      · intro w hSw
        try dsimp only at hSw
        go_simp
        try with_reducible rfl
      try simp only [Act.put, List.setIfInBounds_toArray, List.set_cons_zero, List.set_cons_succ]
      refine wpAnyH_take (i := 2) (oi := { dst := some 86, op := Op.fieldAddr 26 (Operand.tmp 3) 4, type := 0, pos := "ref.go:86", after := #[], guard := none }) (v := ?_) rfl (by kernel_rfl) (by kernel_rfl) (by kernel_rfl) (fun _ _ _ h => h) (Or.inl ⟨by rfl, ?_⟩) hHeld ?_
      rotate_left
      · intro w hSw
        try dsimp only at hSw
        go_simp
        try with_reducible rfl
      try simp only [Act.put, List.setIfInBounds_toArray, List.set_cons_zero, List.set_cons_succ]
      refine wpAnyH_take (i := 3) (oi := { dst := some 87, op := Op.load 24 (Operand.tmp 86), type := 24, pos := "ref.go:86", after := #[{ on := 2, ground := Ground.data }], guard := none }) (v := ?_) rfl (by kernel_rfl) (by kernel_rfl) (by kernel_rfl) (fun _ _ _ h => h) (Or.inl ⟨by rfl, ?_⟩) hHeld ?_
      rotate_left
      · intro w hSw
        try dsimp only at hSw
        go_simp
        try with_reducible rfl
      try simp only [Act.put, List.setIfInBounds_toArray, List.set_cons_zero, List.set_cons_succ]
      refine wpAnyH_take (i := 7) (oi := { dst := some 91, op := Op.fieldAddr 26 (Operand.tmp 3) 3, type := 0, pos := "ref.go:86", after := #[], guard := none }) (v := ?_) rfl (by kernel_rfl) (by kernel_rfl) (by kernel_rfl) (fun _ _ _ h => h) (Or.inl ⟨by rfl, ?_⟩) hHeld ?_
      rotate_left
      · intro w hSw
        try dsimp only at hSw
        go_simp
        try with_reducible rfl
      try simp only [Act.put, List.setIfInBounds_toArray, List.set_cons_zero, List.set_cons_succ]
      refine wpAnyH_take (i := 8) (oi := { dst := some 92, op := Op.load 24 (Operand.tmp 91), type := 24, pos := "ref.go:86", after := #[{ on := 7, ground := Ground.data }], guard := none }) (v := ?_) rfl (by kernel_rfl) (by kernel_rfl) (by kernel_rfl) (fun _ _ _ h => h) (Or.inl ⟨by rfl, ?_⟩) hHeld ?_
      rotate_left
      · intro w hSw
        try dsimp only at hSw
        go_simp
        try with_reducible rfl
      try simp only [Act.put, List.setIfInBounds_toArray, List.set_cons_zero, List.set_cons_succ]
      refine wpAnyH_ready (rs := [4]) (by kernel_rfl) (by simp) ?_
      refine AllReadyH.cons (o := { dst := some 88, op := Op.call { callee := Callee.value (Operand.func 25), args := #[Operand.tmp 87], argTypes := #[24] }, type := 9, pos := "ref.go:86", after := #[{ on := 3, ground := Ground.data }], guard := none }) rfl (fun K hK => ?_) (AllReadyH.nil)
      go_simp
      refine (hs2 _).mono ?_; rintro e w_1 ⟨rfl, hb_1⟩
      try go_wp2_with fail
      refine hK.out _ _ (tx_on hHeld hb_1) (fun hHeld2 => ?_)
      clear hK K hHeld; have hHeld := hHeld2; clear hHeld2
      try simp only [Act.put, List.setIfInBounds_toArray, List.set_cons_zero, List.set_cons_succ]
      refine wpAnyH_take (i := 5) (oi := { dst := some 89, op := Op.binOp BinOp.add 9 (Operand.tmp 85) (Operand.tmp 88) 9, type := 9, pos := "ref.go:86", after := #[{ on := 1, ground := Ground.data }, { on := 4, ground := Ground.data }], guard := none }) (v := ?_) rfl (by kernel_rfl) (by kernel_rfl) (by kernel_rfl) (fun _ _ _ h => h) (Or.inl ⟨by rfl, ?_⟩) hHeld ?_
      rotate_left
      · intro w hSw
        try dsimp only at hSw
        go_simp
        try with_reducible rfl
      try simp only [Act.put, List.setIfInBounds_toArray, List.set_cons_zero, List.set_cons_succ]
      refine wpAnyH_take (i := 6) (oi := { dst := some 90, op := Op.binOp BinOp.add 9 (Operand.tmp 89) (Operand.const (Value.string { data := #[44] })) 9, type := 9, pos := "ref.go:86", after := #[{ on := 5, ground := Ground.data }], guard := none }) (v := ?_) rfl (by kernel_rfl) (by kernel_rfl) (by kernel_rfl) (fun _ _ _ h => h) (Or.inl ⟨by rfl, ?_⟩) hHeld ?_
      rotate_left
      · intro w hSw
        try dsimp only at hSw
        go_simp
        try with_reducible rfl
      try simp only [Act.put, List.setIfInBounds_toArray, List.set_cons_zero, List.set_cons_succ]
      refine wpAnyH_ready (rs := [9]) (by kernel_rfl) (by simp) ?_
      refine AllReadyH.cons (o := { dst := some 93, op := Op.call { callee := Callee.value (Operand.func 25), args := #[Operand.tmp 92], argTypes := #[24] }, type := 9, pos := "ref.go:86", after := #[{ on := 8, ground := Ground.data }, { on := 4, ground := Ground.chain }], guard := none }) rfl (fun K hK => ?_) (AllReadyH.nil)
      go_simp
      refine (hs1 _).mono ?_; rintro e w_2 ⟨rfl, hb_2⟩
      try go_wp2_with fail
      refine hK.out _ _ (tx_on hHeld hb_2) (fun hHeld2 => ?_)
      clear hK K hHeld; have hHeld := hHeld2; clear hHeld2
      try simp only [Act.put, List.setIfInBounds_toArray, List.set_cons_zero, List.set_cons_succ]
      refine wpAnyH_take (i := 10) (oi := { dst := some 94, op := Op.binOp BinOp.add 9 (Operand.tmp 90) (Operand.tmp 93) 9, type := 9, pos := "ref.go:86", after := #[{ on := 6, ground := Ground.data }, { on := 9, ground := Ground.data }], guard := none }) (v := ?_) rfl (by kernel_rfl) (by kernel_rfl) (by kernel_rfl) (fun _ _ _ h => h) (Or.inl ⟨by rfl, ?_⟩) hHeld ?_
      rotate_left
      · intro w hSw
        try dsimp only at hSw
        go_simp
        try with_reducible rfl
      try simp only [Act.put, List.setIfInBounds_toArray, List.set_cons_zero, List.set_cons_succ]
      refine wpAnyH_take (i := 11) (oi := { dst := some 6, op := Op.assign (Operand.tmp 94), type := 9, pos := "ref.go:86", after := #[{ on := 10, ground := Ground.data }, { on := 9, ground := Ground.chain }, { on := 0, ground := Ground.phase }, { on := 1, ground := Ground.phase }, { on := 2, ground := Ground.phase }, { on := 3, ground := Ground.phase }, { on := 4, ground := Ground.phase }, { on := 5, ground := Ground.phase }, { on := 6, ground := Ground.phase }, { on := 7, ground := Ground.phase }, { on := 8, ground := Ground.phase }, { on := 9, ground := Ground.phase }, { on := 10, ground := Ground.phase }], guard := none }) (v := ?_) rfl (by kernel_rfl) (by kernel_rfl) (by kernel_rfl) (fun _ _ _ h => h) (Or.inl ⟨by rfl, ?_⟩) hHeld ?_
      rotate_left
      · intro w hSw
        try dsimp only at hSw
        go_simp
        try with_reducible rfl
      try simp only [Act.put, List.setIfInBounds_toArray, List.set_cons_zero, List.set_cons_succ]
      refine wpAnyH_take (i := 12) (oi := { dst := some 7, op := Op.assign (Operand.const (Value.int IntKind.i64 0)), type := 28, pos := "ref.go:86", after := #[{ on := 11, ground := Ground.chain }, { on := 0, ground := Ground.phase }, { on := 1, ground := Ground.phase }, { on := 2, ground := Ground.phase }, { on := 3, ground := Ground.phase }, { on := 4, ground := Ground.phase }, { on := 5, ground := Ground.phase }, { on := 6, ground := Ground.phase }, { on := 7, ground := Ground.phase }, { on := 8, ground := Ground.phase }, { on := 9, ground := Ground.phase }, { on := 10, ground := Ground.phase }, { on := 11, ground := Ground.phase }], guard := none }) (v := ?_) rfl (by kernel_rfl) (by kernel_rfl) (by kernel_rfl) (fun _ _ _ h => h) (Or.inl ⟨by rfl, ?_⟩) hHeld ?_
      rotate_left
      · intro w hSw
        try dsimp only at hSw
        go_simp
        try with_reducible rfl
      try simp only [Act.put, List.setIfInBounds_toArray, List.set_cons_zero, List.set_cons_succ]
      refine wpAnyH_done (by kernel_rfl) ?_ _
      go_wp2_with fail
      go_ret2
      exact ⟨congrArg Ending.returned HV.out, hHeld.2.2.2⟩
    · skip
      have HR0 : B (foT r (L a) (L b)) = B (nameT (L a)) ++ B (offT r.std) ++ B (nameT (L b)) ++ B (offT r.dst) ++ ⟨#[44]⟩ ++ B (stT r.q) ++ ⟨#[44]⟩ ++ B (stT r.p) := by
        unfold foT; rw [if_neg (by rw [hz]; decide), if_neg hd]; apply ByteArray.ext; simp [ByteArray.data_append]
      have hde : (r.dst != r.std + 3600) = true := by rw [bne_iff_ne]; exact hd
      rw [hz] at zn; clear hd hz hb2 hb1 hE LA LB LO LD LP LQ hq hcp hcq hp1 hq1 hzz hk ha1
      generalize B (foT r (L a) (L b)) = RR at *
      generalize B (nameT (L a)) = s1 at *
      generalize B (offT r.std) = s2 at *
      generalize B (nameT (L b)) = s3 at *
      generalize B (offT r.dst) = s4 at *
      generalize B (stT r.q) = s5 at *
      generalize B (stT r.p) = s6 at *
      have HR := Lib.hid HR0; clear HR0
      go_enter Tryd.func7, Tryd.ntmps7
      go_wp2_with (refine wpList_row_g rfl 26 _ rfl _ rfl _ _ _ _ xR Tryd.underlying26 rfl (by kernel_rfl) ?_)
      refine (hck2 _ iR.1).mono ?_; rintro e W1 ⟨rfl, hb⟩
      have i1 := iR.call hb; have x1 := xR.below hb xR.lt; clear hb iR xR hck2
      have e0 : W1.cell? ⟨w.heap.size, 3, none⟩ = some (.int .u16 0) := by have := x1.cell 3; rw [show (r.A : Array Value)[3]? = some (.int .u16 (r.p.y)) from rfl, HY.out.1.1] at this; exact this
      have e1 : W1.cell? ⟨w.heap.size, 11, none⟩ = some (.int .u16 0) := by have := x1.cell 11; rw [show (r.A : Array Value)[11]? = some (.int .u16 (r.q.y)) from rfl, HY.out.2.1] at this; exact this
      have e2 : W1.cell? ⟨w.heap.size, 10, none⟩ = some (.int .u16 0) := by have := x1.cell 10; rw [show (r.A : Array Value)[10]? = some (.int .u16 (r.p.u)) from rfl, HY.out.1.2] at this; exact this
      have e3 : W1.cell? ⟨w.heap.size, 18, none⟩ = some (.int .u16 0) := by have := x1.cell 18; rw [show (r.A : Array Value)[18]? = some (.int .u16 (r.q.u)) from rfl, HY.out.2.2] at this; exact this
      clear HY
      go_upto_region 5 with fail
      go_wp2_with (refine wpList_seg_g rfl 24 _ rfl _ 3 (sA r.p) rfl _ _ _ _ x1 Tryd.underlying24 rfl (by kernel_rfl) (by kernel_rfl) ?_)
      refine (hn1 _).mono ?_; rintro e W2 ⟨rfl, rfl⟩
      clear zn e0 e1 e2 e3
      go_wp2_with fail
      refine (hn2 _).mono ?_; rintro e W2 ⟨rfl, rfl⟩
      go_wp2_with (refine wpList_row_g rfl 26 _ rfl _ rfl _ _ _ _ x1 Tryd.underlying26 rfl (by kernel_rfl) ?_)
      refine (hoff _).mono ?_; rintro e W3 ⟨rfl, hb⟩
      have i3 := i1.call hb; have x3 := x1.below hb x1.lt; clear hb i1 x1
      go_wp2_with fail
      refine (hna _).mono ?_; rintro e W4 ⟨rfl, rfl⟩
      go_wp2_with fail
      refine (hof1 _).mono ?_; rintro e W5 ⟨rfl, hb⟩
      have i5 := i3.call hb; have x5 := x3.below hb x3.lt; clear hb i3 x3
      go_wp2_with fail
      refine (hnb _).mono ?_; rintro e W4 ⟨rfl, rfl⟩
      go_wp2_with fail
      refine (hof2 _).mono ?_; rintro e W6 ⟨rfl, hb⟩
      replace i5 := i5.call hb; replace x5 := x5.below hb x5.lt; clear hb
      go_upto_region 15 with fail
      clear hn1 hn2 hoff hna hnb hof1 hof2 hT
      have k0 : ¬ 9223372036854775807 < s1.size + s2.size + s3.size + s4.size + 1 := by omega
      have k1 : ¬ 9223372036854775807 < s1.size + s2.size + s3.size + s4.size + 1 + s5.size := by omega
      have k2 : ¬ 9223372036854775807 < s1.size + s2.size + s3.size + s4.size + 1 + s5.size + 1 := by omega
      have k3 : ¬ 9223372036854775807 < s1.size + s2.size + s3.size + s4.size + 1 + s5.size + 1 + s6.size := by omega
      have HV := Lib.hid (show Value.tuple #[.string (s1 ++ s2 ++ s3 ++ s4 ++ ⟨#[44]⟩ ++ s5 ++ ⟨#[44]⟩ ++ s6), .int .i64 0] = .tuple #[.string RR, .int .i64 0] by rw [HR.out])
      have x6 : Blk W6.drew w.heap.size 26 r.A := x5
      refine wp_region_held_drew (S := fun w' => ldT 24 (.pointer (some ⟨w.heap.size, 11, none⟩)) w' = some (sA r.q) ∧ ldT 24 (.pointer (some ⟨w.heap.size, 3, none⟩)) w' = some (sA r.p) ∧ (Blk w' w.heap.size 26 r.A ∧ Below w.heap.size w w')) (by kernel_rfl) (tx_mk x6 i5.2.drew) (fun hHeld => ?_)
      refine wpAnyH_take (i := 0) (oi := { dst := some 84, op := Op.move (Operand.tmp 11), type := 9, pos := "ref.go:86", after := #[], guard := none }) (v := ?_) rfl (by kernel_rfl) (by kernel_rfl) (by kernel_rfl) (fun _ _ _ h => h) (Or.inl ⟨by rfl, ?_⟩) hHeld ?_
      rotate_left
      · intro w hSw
        try dsimp only at hSw
        go_simp
        try with_reducible rfl
      try simp only [Act.put, List.setIfInBounds_toArray, List.set_cons_zero, List.set_cons_succ]
      refine wpAnyH_take (i := 1) (oi := { dst := some 85, op := Op.binOp BinOp.add 9 (Operand.tmp 84) (Operand.const (Value.string { data := #[44] })) 9, type := 9, pos := "ref.go:86", after := #[{ on := 0, ground := Ground.data }], guard := none }) (v := ?_) rfl (by kernel_rfl) (by kernel_rfl) (by kernel_rfl) (fun _ _ _ h => h) (Or.inl ⟨by rfl, ?_⟩) hHeld ?_
      rotate_left
      · intro w hSw
        try dsimp only at hSw
        go_simp
        try with_reducible rfl
      try simp only [Act.put, List.setIfInBounds_toArray, List.set_cons_zero, List.set_cons_succ]
      refine wpAnyH_take (i := 2) (oi := { dst := some 86, op := Op.fieldAddr 26 (Operand.tmp 3) 4, type := 0, pos := "ref.go:86", after := #[], guard := none }) (v := ?_) rfl (by kernel_rfl) (by kernel_rfl) (by kernel_rfl) (fun _ _ _ h => h) (Or.inl ⟨by rfl, ?_⟩) hHeld ?_
      rotate_left
      · intro w hSw
        try dsimp only at hSw
        go_simp
        try with_reducible rfl
      try simp only [Act.put, List.setIfInBounds_toArray, List.set_cons_zero, List.set_cons_succ]
      refine wpAnyH_take (i := 3) (oi := { dst := some 87, op := Op.load 24 (Operand.tmp 86), type := 24, pos := "ref.go:86", after := #[{ on := 2, ground := Ground.data }], guard := none }) (v := ?_) rfl (by kernel_rfl) (by kernel_rfl) (by kernel_rfl) (fun _ _ _ h => h) (Or.inl ⟨by rfl, ?_⟩) hHeld ?_
      rotate_left
      · intro w hSw
        try dsimp only at hSw
        go_simp
        try with_reducible rfl
      try simp only [Act.put, List.setIfInBounds_toArray, List.set_cons_zero, List.set_cons_succ]
      refine wpAnyH_take (i := 7) (oi := { dst := some 91, op := Op.fieldAddr 26 (Operand.tmp 3) 3, type := 0, pos := "ref.go:86", after := #[], guard := none }) (v := ?_) rfl (by kernel_rfl) (by kernel_rfl) (by kernel_rfl) (fun _ _ _ h => h) (Or.inl ⟨by rfl, ?_⟩) hHeld ?_
      rotate_left
      · intro w hSw
        try dsimp only at hSw
        go_simp
        try with_reducible rfl
      try simp only [Act.put, List.setIfInBounds_toArray, List.set_cons_zero, List.set_cons_succ]
      refine wpAnyH_take (i := 8) (oi := { dst := some 92, op := Op.load 24 (Operand.tmp 91), type := 24, pos := "ref.go:86", after := #[{ on := 7, ground := Ground.data }], guard := none }) (v := ?_) rfl (by kernel_rfl) (by kernel_rfl) (by kernel_rfl) (fun _ _ _ h => h) (Or.inl ⟨by rfl, ?_⟩) hHeld ?_
      rotate_left
      · intro w hSw
        try dsimp only at hSw
        go_simp
        try with_reducible rfl
      try simp only [Act.put, List.setIfInBounds_toArray, List.set_cons_zero, List.set_cons_succ]
      refine wpAnyH_ready (rs := [4]) (by kernel_rfl) (by simp) ?_
      refine AllReadyH.cons (o := { dst := some 88, op := Op.call { callee := Callee.value (Operand.func 25), args := #[Operand.tmp 87], argTypes := #[24] }, type := 9, pos := "ref.go:86", after := #[{ on := 3, ground := Ground.data }], guard := none }) rfl (fun K hK => ?_) (AllReadyH.nil)
      go_simp
      refine (hs2 _).mono ?_; rintro e w_1 ⟨rfl, hb_1⟩
      try go_wp2_with fail
      refine hK.out _ _ (tx_on hHeld hb_1) (fun hHeld2 => ?_)
      clear hK K hHeld; have hHeld := hHeld2; clear hHeld2
      try simp only [Act.put, List.setIfInBounds_toArray, List.set_cons_zero, List.set_cons_succ]
      refine wpAnyH_take (i := 5) (oi := { dst := some 89, op := Op.binOp BinOp.add 9 (Operand.tmp 85) (Operand.tmp 88) 9, type := 9, pos := "ref.go:86", after := #[{ on := 1, ground := Ground.data }, { on := 4, ground := Ground.data }], guard := none }) (v := ?_) rfl (by kernel_rfl) (by kernel_rfl) (by kernel_rfl) (fun _ _ _ h => h) (Or.inl ⟨by rfl, ?_⟩) hHeld ?_
      rotate_left
      · intro w hSw
        try dsimp only at hSw
        go_simp
        try with_reducible rfl
      try simp only [Act.put, List.setIfInBounds_toArray, List.set_cons_zero, List.set_cons_succ]
      refine wpAnyH_take (i := 6) (oi := { dst := some 90, op := Op.binOp BinOp.add 9 (Operand.tmp 89) (Operand.const (Value.string { data := #[44] })) 9, type := 9, pos := "ref.go:86", after := #[{ on := 5, ground := Ground.data }], guard := none }) (v := ?_) rfl (by kernel_rfl) (by kernel_rfl) (by kernel_rfl) (fun _ _ _ h => h) (Or.inl ⟨by rfl, ?_⟩) hHeld ?_
      rotate_left
      · intro w hSw
        try dsimp only at hSw
        go_simp
        try with_reducible rfl
      try simp only [Act.put, List.setIfInBounds_toArray, List.set_cons_zero, List.set_cons_succ]
      refine wpAnyH_ready (rs := [9]) (by kernel_rfl) (by simp) ?_
      refine AllReadyH.cons (o := { dst := some 93, op := Op.call { callee := Callee.value (Operand.func 25), args := #[Operand.tmp 92], argTypes := #[24] }, type := 9, pos := "ref.go:86", after := #[{ on := 8, ground := Ground.data }, { on := 4, ground := Ground.chain }], guard := none }) rfl (fun K hK => ?_) (AllReadyH.nil)
      go_simp
      refine (hs1 _).mono ?_; rintro e w_2 ⟨rfl, hb_2⟩
      try go_wp2_with fail
      refine hK.out _ _ (tx_on hHeld hb_2) (fun hHeld2 => ?_)
      clear hK K hHeld; have hHeld := hHeld2; clear hHeld2
      try simp only [Act.put, List.setIfInBounds_toArray, List.set_cons_zero, List.set_cons_succ]
      refine wpAnyH_take (i := 10) (oi := { dst := some 94, op := Op.binOp BinOp.add 9 (Operand.tmp 90) (Operand.tmp 93) 9, type := 9, pos := "ref.go:86", after := #[{ on := 6, ground := Ground.data }, { on := 9, ground := Ground.data }], guard := none }) (v := ?_) rfl (by kernel_rfl) (by kernel_rfl) (by kernel_rfl) (fun _ _ _ h => h) (Or.inl ⟨by rfl, ?_⟩) hHeld ?_
      rotate_left
      · intro w hSw
        try dsimp only at hSw
        go_simp
        try with_reducible rfl
      try simp only [Act.put, List.setIfInBounds_toArray, List.set_cons_zero, List.set_cons_succ]
      refine wpAnyH_take (i := 11) (oi := { dst := some 6, op := Op.assign (Operand.tmp 94), type := 9, pos := "ref.go:86", after := #[{ on := 10, ground := Ground.data }, { on := 9, ground := Ground.chain }, { on := 0, ground := Ground.phase }, { on := 1, ground := Ground.phase }, { on := 2, ground := Ground.phase }, { on := 3, ground := Ground.phase }, { on := 4, ground := Ground.phase }, { on := 5, ground := Ground.phase }, { on := 6, ground := Ground.phase }, { on := 7, ground := Ground.phase }, { on := 8, ground := Ground.phase }, { on := 9, ground := Ground.phase }, { on := 10, ground := Ground.phase }], guard := none }) (v := ?_) rfl (by kernel_rfl) (by kernel_rfl) (by kernel_rfl) (fun _ _ _ h => h) (Or.inl ⟨by rfl, ?_⟩) hHeld ?_
      rotate_left
      · intro w hSw
        try dsimp only at hSw
        go_simp
        try with_reducible rfl
      try simp only [Act.put, List.setIfInBounds_toArray, List.set_cons_zero, List.set_cons_succ]
      refine wpAnyH_take (i := 12) (oi := { dst := some 7, op := Op.assign (Operand.const (Value.int IntKind.i64 0)), type := 28, pos := "ref.go:86", after := #[{ on := 11, ground := Ground.chain }, { on := 0, ground := Ground.phase }, { on := 1, ground := Ground.phase }, { on := 2, ground := Ground.phase }, { on := 3, ground := Ground.phase }, { on := 4, ground := Ground.phase }, { on := 5, ground := Ground.phase }, { on := 6, ground := Ground.phase }, { on := 7, ground := Ground.phase }, { on := 8, ground := Ground.phase }, { on := 9, ground := Ground.phase }, { on := 10, ground := Ground.phase }, { on := 11, ground := Ground.phase }], guard := none }) (v := ?_) rfl (by kernel_rfl) (by kernel_rfl) (by kernel_rfl) (fun _ _ _ h => h) (Or.inl ⟨by rfl, ?_⟩) hHeld ?_
      rotate_left
      · intro w hSw
        try dsimp only at hSw
        go_simp
        try with_reducible rfl
      try simp only [Act.put, List.setIfInBounds_toArray, List.set_cons_zero, List.set_cons_succ]
      refine wpAnyH_done (by kernel_rfl) ?_ _
      go_wp2_with fail
      go_ret2
      exact ⟨congrArg Ending.returned HV.out, hHeld.2.2.2⟩
end Go.Proofs.YtgdgkgeoigljcaaDoor.Fo
