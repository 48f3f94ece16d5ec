/-
  footer.Text, walked.
-/
import Derived.Test.YtgdgkgeoigljcaaDoorFo3
import Derived.Test.YtgdgkgeoigljcaaDoorSp
namespace Go.Proofs.YtgdgkgeoigljcaaDoor.Fo
open Go.ChangeShapes Go.WideShapes Go.ChangeAt Go.RowKit Go.Shelf
open Go.Proofs.YtgdgkgeoigljcaaDoor
open Go.Proofs.YtgdgkgeoigljcaaDoor.Wd
open Go.Proofs.YtgdgkgeoigljcaaDoor.Rec
open Go.Proofs.YtgdgkgeoigljcaaDoor.Tb (Rc)
open Go.Proofs.YtgdgkgeoigljcaaDoor.Civ (Tab)
open Go.Lib (byteCells)
set_option linter.unusedVariables false
set_option linter.unusedSimpArgs false
theorem sh_of {x : St} (hB : x.Bd) (hz : x.zero = false) (hc : x.chk = 0) : Sh x := by
  obtain ⟨h1, h2, h3⟩ := Stp.chk_of (y := x.y) (m := x.m) (v := x.v) (d := x.d) (h := x.h) (i := x.i) (s := x.s) (u := x.u) hz
  have hn : Stp.numS x.m x.v x.d x.h x.i x.s x.u = true := by
    cases q : Stp.numS x.m x.v x.d x.h x.i x.s x.u with
    | true => rfl
    | false => have := h1 q; rw [show Stp.chkS x.y x.m x.v x.d x.h x.i x.s x.u = 0 from hc] at this; simp at this
  have hd : Stp.dayS x.y x.m x.d = true := by
    cases q : Stp.dayS x.y x.m x.d with
    | true => rfl
    | false => have := h2 hn q; rw [show Stp.chkS x.y x.m x.v x.d x.h x.i x.s x.u = 0 from hc] at this; simp at this
  unfold Stp.numS at hn
  unfold Stp.dayS at hd
  rw [decide_eq_true_eq] at hn hd
  have hl : Cal.mlen x.y x.m ≤ 31 := (Cal.mlen_bd _ _).2
  obtain ⟨b1, b2, b3, b4, b5, b6, b7, b8⟩ := hB
  exact ⟨by omega, by omega, by omega, by omega, by omega, by omega⟩
theorem ok_parts {r : Rc} (h : r.ok = true) : r.p.zero = r.q.zero ∧ r.p.chk = 0 ∧ r.q.chk = 0 ∧ (-86400 ≤ r.std ∧ r.std ≤ 86400) ∧ (-86400 ≤ r.dst ∧ r.dst ≤ 86400) := by
  unfold Rc.ok rcOk at h
  simp only [Bool.and_eq_true, beq_iff_eq] at h
  have h1 := Rc.near (r := r) (by unfold Rc.ok rcOk; simp only [Bool.and_eq_true, beq_iff_eq]; exact h)
  exact ⟨h.1, h.2.1, h.2.2.1, h1⟩
theorem seg_p (r : Rc) : True := trivial
set_option maxRecDepth 100000 in
set_option maxHeartbeats 12800000 in
theorem ftext_no (r : Rc) (a b : ByteArray) (w : World) (hT : Tab w) (hB : r.Bd) (ha : a.size ≤ 1000) (hb0 : b.size ≤ 1000) (hE : foE r (L a) (L b) ≠ 0) :
    Calls Tryd.prog 6 #[r.V, .string a, .string b] w fun e w' => e = .returned (.tuple #[.string ⟨#[]⟩, .int .i64 (foE r (L a) (L b))]) ∧ Below w.heap.size w w' := by
  have iR := (Civ.Inv.start hT).alloc (.cells r.A 26)
  have xR := Blk.new w 26 r.A
  have hck := fun W (h : Tab W) => Rec.chk_any r.b r.c r.d r.p r.q W h hB
  have he1 := each_any r.p; have he2 := each_any r.q
  have hn1 := fun W => fname_any a W (by unfold maxLen; omega); have hn2 := fun W => fname_any b W (by unfold maxLen; omega)
  have zn : ∀ W : World, (binOp .neq 24 (.agg (sA r.p)) (.agg #[.int .u16 0, .int .u16 0, .int .u16 0, .int .u16 0, .int .u16 0, .int .u16 0, .int .u16 0, .int .u16 0])).run Tryd.prog W = .ok (.bool (!r.p.zero)) W := fun W => by
    have q := neq_stt r.p St.nil W
    rw [eqS_zero] at q; exact q
  unfold foE at hE
  cases hk : r.ok with
  | false =>
    have HE := Lib.hid (show foE r (L a) (L b) = 2 by unfold foE; rw [hk]; rfl)
    have hck2 : ∀ W, Tab W → Calls Tryd.prog 12 #[r.V] W fun e w' => e = .returned (.int .i64 2) ∧ Below W.heap.size W w' := fun W h => by
      have := hck W h; unfold rcE at this; rw [show rcOk r.b r.c r.d r.p r.q = false from hk] at this; exact this
    clear hck hE he1 he2 hn1 hn2 zn hk
    go_enter Tryd.func6, Tryd.ntmps6
    go_wp2_with (first | refine wpList_row_g rfl 26 _ rfl _ rfl _ _ _ _ xR Tryd.underlying26 rfl (by kernel_rfl) ?_ | refine wpList_seg_g rfl 24 _ rfl _ 3 (sA r.p) rfl _ _ _ _ xR Tryd.underlying24 rfl (by kernel_rfl) rfl ?_ | refine wpList_seg_g rfl 24 _ rfl _ 11 (sA r.q) rfl _ _ _ _ xR Tryd.underlying24 rfl (by kernel_rfl) rfl ?_)
    refine (hck2 _ iR.1).mono ?_; rintro e W1 ⟨rfl, hb⟩
    have iR2 := iR.call hb
    go_wp2_with fail
    go_ret2
    exact ⟨by rw [HE.out]; rfl, iR2.2⟩
  | true =>
    have hck2 : ∀ W, Tab W → Calls Tryd.prog 12 #[r.V] W fun e w' => e = .returned (.int .i64 0) ∧ Below W.heap.size W w' := fun W h => by
      have := hck W h; unfold rcE at this; rw [show rcOk r.b r.c r.d r.p r.q = true from hk] at this; exact this
    clear hck
    cases hp : each r.p with
    | false =>
      have HE := Lib.hid (show foE r (L a) (L b) = 3 by unfold foE; rw [hk, if_neg (by decide), hp]; rfl)
      rw [hp] at he1
      clear hE hk hp he2 hn1 hn2 zn
      go_enter Tryd.func6, Tryd.ntmps6
      go_wp2_with (first | refine wpList_row_g rfl 26 _ rfl _ rfl _ _ _ _ xR Tryd.underlying26 rfl (by kernel_rfl) ?_ | refine wpList_seg_g rfl 24 _ rfl _ 3 (sA r.p) rfl _ _ _ _ xR Tryd.underlying24 rfl (by kernel_rfl) rfl ?_ | refine wpList_seg_g rfl 24 _ rfl _ 11 (sA r.q) rfl _ _ _ _ xR Tryd.underlying24 rfl (by kernel_rfl) rfl ?_)
      refine (hck2 _ iR.1).mono ?_; rintro e W1 ⟨rfl, hb⟩
      have i1 := iR.call hb; have x1 := xR.below hb xR.lt
      clear hb iR xR hck2
      have iR := i1; have xR := x1
      clear i1 x1
      go_wp2_with (first | refine wpList_row_g rfl 26 _ rfl _ rfl _ _ _ _ xR Tryd.underlying26 rfl (by kernel_rfl) ?_ | refine wpList_seg_g rfl 24 _ rfl _ 3 (sA r.p) rfl _ _ _ _ xR Tryd.underlying24 rfl (by kernel_rfl) rfl ?_ | refine wpList_seg_g rfl 24 _ rfl _ 11 (sA r.q) rfl _ _ _ _ xR Tryd.underlying24 rfl (by kernel_rfl) rfl ?_)
      refine (he1 _).mono ?_; rintro e W2 ⟨rfl, hb⟩
      have i1 := iR.call hb; have x1 := xR.below hb xR.lt
      clear hb iR xR he1
      have iR := i1; have xR := x1
      clear i1 x1
      go_wp2_with fail
      go_ret2
      exact ⟨by rw [HE.out]; rfl, iR.2⟩
    | true =>
      rw [hp] at he1
      cases hq : each r.q with
      | false =>
        have HE := Lib.hid (show foE r (L a) (L b) = 3 by unfold foE; rw [hk, if_neg (by decide), hp, hq]; rfl)
        rw [hq] at he2
        clear hE hk hp hq hn1 hn2 zn
        go_enter Tryd.func6, Tryd.ntmps6
        go_wp2_with (first | refine wpList_row_g rfl 26 _ rfl _ rfl _ _ _ _ xR Tryd.underlying26 rfl (by kernel_rfl) ?_ | refine wpList_seg_g rfl 24 _ rfl _ 3 (sA r.p) rfl _ _ _ _ xR Tryd.underlying24 rfl (by kernel_rfl) rfl ?_ | refine wpList_seg_g rfl 24 _ rfl _ 11 (sA r.q) rfl _ _ _ _ xR Tryd.underlying24 rfl (by kernel_rfl) rfl ?_)
        refine (hck2 _ iR.1).mono ?_; rintro e W1 ⟨rfl, hb⟩
        have i1 := iR.call hb; have x1 := xR.below hb xR.lt
        clear hb iR xR hck2
        have iR := i1; have xR := x1
        clear i1 x1
        go_wp2_with (first | refine wpList_row_g rfl 26 _ rfl _ rfl _ _ _ _ xR Tryd.underlying26 rfl (by kernel_rfl) ?_ | refine wpList_seg_g rfl 24 _ rfl _ 3 (sA r.p) rfl _ _ _ _ xR Tryd.underlying24 rfl (by kernel_rfl) rfl ?_ | refine wpList_seg_g rfl 24 _ rfl _ 11 (sA r.q) rfl _ _ _ _ xR Tryd.underlying24 rfl (by kernel_rfl) rfl ?_)
        refine (he1 _).mono ?_; rintro e W2 ⟨rfl, hb⟩
        have i1 := iR.call hb; have x1 := xR.below hb xR.lt
        clear hb iR xR he1
        have iR := i1; have xR := x1
        clear i1 x1
        go_wp2_with (first | refine wpList_row_g rfl 26 _ rfl _ rfl _ _ _ _ xR Tryd.underlying26 rfl (by kernel_rfl) ?_ | refine wpList_seg_g rfl 24 _ rfl _ 3 (sA r.p) rfl _ _ _ _ xR Tryd.underlying24 rfl (by kernel_rfl) rfl ?_ | refine wpList_seg_g rfl 24 _ rfl _ 11 (sA r.q) rfl _ _ _ _ xR Tryd.underlying24 rfl (by kernel_rfl) rfl ?_)
        refine (he2 _).mono ?_; rintro e W3 ⟨rfl, hb⟩
        have i1 := iR.call hb; have x1 := xR.below hb xR.lt
        clear hb iR xR he2
        have iR := i1; have xR := x1
        clear i1 x1
        go_wp2_with fail
        go_ret2
        exact ⟨by rw [HE.out]; rfl, iR.2⟩
      | true =>
        rw [hq] at he2
        rw [hk, if_neg (by decide), hp, hq, if_neg (by decide)] at hE
        cases hz : r.p.zero with
        | false =>
          rw [hz] at zn
          cases ha1 : nameB (L a) with
          | false =>
            rw [ha1] at hn1
            have HE := Lib.hid (show foE r (L a) (L b) = 7 by unfold foE; rw [hk, if_neg (by decide), hp, hq, if_neg (by decide), if_pos (Or.inl ha1)])
            clear hE
            clear ha1 hn2 hz
            clear hk hp hq
            go_enter Tryd.func6, Tryd.ntmps6
            go_wp2_with (first | refine wpList_row_g rfl 26 _ rfl _ rfl _ _ _ _ xR Tryd.underlying26 rfl (by kernel_rfl) ?_ | refine wpList_seg_g rfl 24 _ rfl _ 3 (sA r.p) rfl _ _ _ _ xR Tryd.underlying24 rfl (by kernel_rfl) rfl ?_ | refine wpList_seg_g rfl 24 _ rfl _ 11 (sA r.q) rfl _ _ _ _ xR Tryd.underlying24 rfl (by kernel_rfl) rfl ?_)
            refine (hck2 _ iR.1).mono ?_; rintro e W1 ⟨rfl, hb⟩
            have i1 := iR.call hb; have x1 := xR.below hb xR.lt
            clear hb iR xR hck2
            have iR := i1; have xR := x1
            clear i1 x1
            go_wp2_with (first | refine wpList_row_g rfl 26 _ rfl _ rfl _ _ _ _ xR Tryd.underlying26 rfl (by kernel_rfl) ?_ | refine wpList_seg_g rfl 24 _ rfl _ 3 (sA r.p) rfl _ _ _ _ xR Tryd.underlying24 rfl (by kernel_rfl) rfl ?_ | refine wpList_seg_g rfl 24 _ rfl _ 11 (sA r.q) rfl _ _ _ _ xR Tryd.underlying24 rfl (by kernel_rfl) rfl ?_)
            refine (he1 _).mono ?_; rintro e W2 ⟨rfl, hb⟩
            have i1 := iR.call hb; have x1 := xR.below hb xR.lt
            clear hb iR xR he1
            have iR := i1; have xR := x1
            clear i1 x1
            go_wp2_with (first | refine wpList_row_g rfl 26 _ rfl _ rfl _ _ _ _ xR Tryd.underlying26 rfl (by kernel_rfl) ?_ | refine wpList_seg_g rfl 24 _ rfl _ 3 (sA r.p) rfl _ _ _ _ xR Tryd.underlying24 rfl (by kernel_rfl) rfl ?_ | refine wpList_seg_g rfl 24 _ rfl _ 11 (sA r.q) rfl _ _ _ _ xR Tryd.underlying24 rfl (by kernel_rfl) rfl ?_)
            refine (he2 _).mono ?_; rintro e W3 ⟨rfl, hb⟩
            have i1 := iR.call hb; have x1 := xR.below hb xR.lt
            clear hb iR xR he2
            have iR := i1; have xR := x1
            clear i1 x1
            go_wp2_with (first | refine wpList_row_g rfl 26 _ rfl _ rfl _ _ _ _ xR Tryd.underlying26 rfl (by kernel_rfl) ?_ | refine wpList_seg_g rfl 24 _ rfl _ 3 (sA r.p) rfl _ _ _ _ xR Tryd.underlying24 rfl (by kernel_rfl) rfl ?_ | refine wpList_seg_g rfl 24 _ rfl _ 11 (sA r.q) rfl _ _ _ _ xR Tryd.underlying24 rfl (by kernel_rfl) rfl ?_)
            refine (hn1 _).mono ?_; rintro e W ⟨rfl, rfl⟩
            go_wp2_with fail
            go_ret2
            exact ⟨by rw [HE.out]; rfl, iR.2⟩
          | true =>
            rw [ha1] at hn1
            cases hb1 : nameB (L b) with
            | false =>
              rw [hb1] at hn2
              have HE := Lib.hid (show foE r (L a) (L b) = 7 by unfold foE; rw [hk, if_neg (by decide), hp, hq, if_neg (by decide), if_pos (Or.inr (Or.inl ⟨hz, hb1⟩))])
              clear hE
              clear ha1 hb1 hz
              clear hk hp hq
              go_enter Tryd.func6, Tryd.ntmps6
              go_wp2_with (first | refine wpList_row_g rfl 26 _ rfl _ rfl _ _ _ _ xR Tryd.underlying26 rfl (by kernel_rfl) ?_ | refine wpList_seg_g rfl 24 _ rfl _ 3 (sA r.p) rfl _ _ _ _ xR Tryd.underlying24 rfl (by kernel_rfl) rfl ?_ | refine wpList_seg_g rfl 24 _ rfl _ 11 (sA r.q) rfl _ _ _ _ xR Tryd.underlying24 rfl (by kernel_rfl) rfl ?_)
              refine (hck2 _ iR.1).mono ?_; rintro e W1 ⟨rfl, hb⟩
              have i1 := iR.call hb; have x1 := xR.below hb xR.lt
              clear hb iR xR hck2
              have iR := i1; have xR := x1
              clear i1 x1
              go_wp2_with (first | refine wpList_row_g rfl 26 _ rfl _ rfl _ _ _ _ xR Tryd.underlying26 rfl (by kernel_rfl) ?_ | refine wpList_seg_g rfl 24 _ rfl _ 3 (sA r.p) rfl _ _ _ _ xR Tryd.underlying24 rfl (by kernel_rfl) rfl ?_ | refine wpList_seg_g rfl 24 _ rfl _ 11 (sA r.q) rfl _ _ _ _ xR Tryd.underlying24 rfl (by kernel_rfl) rfl ?_)
              refine (he1 _).mono ?_; rintro e W2 ⟨rfl, hb⟩
              have i1 := iR.call hb; have x1 := xR.below hb xR.lt
              clear hb iR xR he1
              have iR := i1; have xR := x1
              clear i1 x1
              go_wp2_with (first | refine wpList_row_g rfl 26 _ rfl _ rfl _ _ _ _ xR Tryd.underlying26 rfl (by kernel_rfl) ?_ | refine wpList_seg_g rfl 24 _ rfl _ 3 (sA r.p) rfl _ _ _ _ xR Tryd.underlying24 rfl (by kernel_rfl) rfl ?_ | refine wpList_seg_g rfl 24 _ rfl _ 11 (sA r.q) rfl _ _ _ _ xR Tryd.underlying24 rfl (by kernel_rfl) rfl ?_)
              refine (he2 _).mono ?_; rintro e W3 ⟨rfl, hb⟩
              have i1 := iR.call hb; have x1 := xR.below hb xR.lt
              clear hb iR xR he2
              have iR := i1; have xR := x1
              clear i1 x1
              go_wp2_with (first | refine wpList_row_g rfl 26 _ rfl _ rfl _ _ _ _ xR Tryd.underlying26 rfl (by kernel_rfl) ?_ | refine wpList_seg_g rfl 24 _ rfl _ 3 (sA r.p) rfl _ _ _ _ xR Tryd.underlying24 rfl (by kernel_rfl) rfl ?_ | refine wpList_seg_g rfl 24 _ rfl _ 11 (sA r.q) rfl _ _ _ _ xR Tryd.underlying24 rfl (by kernel_rfl) rfl ?_)
              refine (hn1 _).mono ?_; rintro e W ⟨rfl, rfl⟩
              go_wp2_with fail
              refine (hn2 _).mono ?_; rintro e W ⟨rfl, rfl⟩
              go_wp2_with fail
              go_ret2
              exact ⟨by rw [HE.out]; rfl, iR.2⟩
            | true => exact absurd (if_neg (by rw [ha1, hz, hb1]; simp)) hE
        | true =>
          rw [hz] at zn
          cases ha1 : nameB (L a) with
          | false =>
            rw [ha1] at hn1
            have HE := Lib.hid (show foE r (L a) (L b) = 7 by unfold foE; rw [hk, if_neg (by decide), hp, hq, if_neg (by decide), if_pos (Or.inl ha1)])
            clear hE
            clear ha1 hn2 hz
            clear hk hp hq
            go_enter Tryd.func6, Tryd.ntmps6
            go_wp2_with (first | refine wpList_row_g rfl 26 _ rfl _ rfl _ _ _ _ xR Tryd.underlying26 rfl (by kernel_rfl) ?_ | refine wpList_seg_g rfl 24 _ rfl _ 3 (sA r.p) rfl _ _ _ _ xR Tryd.underlying24 rfl (by kernel_rfl) rfl ?_ | refine wpList_seg_g rfl 24 _ rfl _ 11 (sA r.q) rfl _ _ _ _ xR Tryd.underlying24 rfl (by kernel_rfl) rfl ?_)
            refine (hck2 _ iR.1).mono ?_; rintro e W1 ⟨rfl, hb⟩
            have i1 := iR.call hb; have x1 := xR.below hb xR.lt
            clear hb iR xR hck2
            have iR := i1; have xR := x1
            clear i1 x1
            go_wp2_with (first | refine wpList_row_g rfl 26 _ rfl _ rfl _ _ _ _ xR Tryd.underlying26 rfl (by kernel_rfl) ?_ | refine wpList_seg_g rfl 24 _ rfl _ 3 (sA r.p) rfl _ _ _ _ xR Tryd.underlying24 rfl (by kernel_rfl) rfl ?_ | refine wpList_seg_g rfl 24 _ rfl _ 11 (sA r.q) rfl _ _ _ _ xR Tryd.underlying24 rfl (by kernel_rfl) rfl ?_)
            refine (he1 _).mono ?_; rintro e W2 ⟨rfl, hb⟩
            have i1 := iR.call hb; have x1 := xR.below hb xR.lt
            clear hb iR xR he1
            have iR := i1; have xR := x1
            clear i1 x1
            go_wp2_with (first | refine wpList_row_g rfl 26 _ rfl _ rfl _ _ _ _ xR Tryd.underlying26 rfl (by kernel_rfl) ?_ | refine wpList_seg_g rfl 24 _ rfl _ 3 (sA r.p) rfl _ _ _ _ xR Tryd.underlying24 rfl (by kernel_rfl) rfl ?_ | refine wpList_seg_g rfl 24 _ rfl _ 11 (sA r.q) rfl _ _ _ _ xR Tryd.underlying24 rfl (by kernel_rfl) rfl ?_)
            refine (he2 _).mono ?_; rintro e W3 ⟨rfl, hb⟩
            have i1 := iR.call hb; have x1 := xR.below hb xR.lt
            clear hb iR xR he2
            have iR := i1; have xR := x1
            clear i1 x1
            go_wp2_with (first | refine wpList_row_g rfl 26 _ rfl _ rfl _ _ _ _ xR Tryd.underlying26 rfl (by kernel_rfl) ?_ | refine wpList_seg_g rfl 24 _ rfl _ 3 (sA r.p) rfl _ _ _ _ xR Tryd.underlying24 rfl (by kernel_rfl) rfl ?_ | refine wpList_seg_g rfl 24 _ rfl _ 11 (sA r.q) rfl _ _ _ _ xR Tryd.underlying24 rfl (by kernel_rfl) rfl ?_)
            refine (hn1 _).mono ?_; rintro e W ⟨rfl, rfl⟩
            go_wp2_with fail
            go_ret2
            exact ⟨by rw [HE.out]; rfl, iR.2⟩
          | true =>
            rw [ha1] at hn1
            by_cases hbe : L b = []
            · exact absurd (if_neg (by rw [ha1, hz, hbe]; simp)) hE
            · have hbe2 : (b.toList == []) = false := by rw [Lib.toList_data, beq_eq_false_iff_ne]; exact hbe
              have hbe3 : b.toList.isEmpty = false := by
                rw [Lib.toList_data]
                cases q : b.data.toList with
                | nil => exact absurd q hbe
                | cons _ _ => rfl
              have HE := Lib.hid (show foE r (L a) (L b) = 7 by unfold foE; rw [hk, if_neg (by decide), hp, hq, if_neg (by decide), if_pos (Or.inr (Or.inr ⟨hz, hbe⟩))])
              clear hE
              clear ha1 hz hbe hn2
              clear hk hp hq
              go_enter Tryd.func6, Tryd.ntmps6
              go_wp2_with (first | refine wpList_row_g rfl 26 _ rfl _ rfl _ _ _ _ xR Tryd.underlying26 rfl (by kernel_rfl) ?_ | refine wpList_seg_g rfl 24 _ rfl _ 3 (sA r.p) rfl _ _ _ _ xR Tryd.underlying24 rfl (by kernel_rfl) rfl ?_ | refine wpList_seg_g rfl 24 _ rfl _ 11 (sA r.q) rfl _ _ _ _ xR Tryd.underlying24 rfl (by kernel_rfl) rfl ?_)
              refine (hck2 _ iR.1).mono ?_; rintro e W1 ⟨rfl, hb⟩
              have i1 := iR.call hb; have x1 := xR.below hb xR.lt
              clear hb iR xR hck2
              have iR := i1; have xR := x1
              clear i1 x1
              go_wp2_with (first | refine wpList_row_g rfl 26 _ rfl _ rfl _ _ _ _ xR Tryd.underlying26 rfl (by kernel_rfl) ?_ | refine wpList_seg_g rfl 24 _ rfl _ 3 (sA r.p) rfl _ _ _ _ xR Tryd.underlying24 rfl (by kernel_rfl) rfl ?_ | refine wpList_seg_g rfl 24 _ rfl _ 11 (sA r.q) rfl _ _ _ _ xR Tryd.underlying24 rfl (by kernel_rfl) rfl ?_)
              refine (he1 _).mono ?_; rintro e W2 ⟨rfl, hb⟩
              have i1 := iR.call hb; have x1 := xR.below hb xR.lt
              clear hb iR xR he1
              have iR := i1; have xR := x1
              clear i1 x1
              go_wp2_with (first | refine wpList_row_g rfl 26 _ rfl _ rfl _ _ _ _ xR Tryd.underlying26 rfl (by kernel_rfl) ?_ | refine wpList_seg_g rfl 24 _ rfl _ 3 (sA r.p) rfl _ _ _ _ xR Tryd.underlying24 rfl (by kernel_rfl) rfl ?_ | refine wpList_seg_g rfl 24 _ rfl _ 11 (sA r.q) rfl _ _ _ _ xR Tryd.underlying24 rfl (by kernel_rfl) rfl ?_)
              refine (he2 _).mono ?_; rintro e W3 ⟨rfl, hb⟩
              have i1 := iR.call hb; have x1 := xR.below hb xR.lt
              clear hb iR xR he2
              have iR := i1; have xR := x1
              clear i1 x1
              go_wp2_with (first | refine wpList_row_g rfl 26 _ rfl _ rfl _ _ _ _ xR Tryd.underlying26 rfl (by kernel_rfl) ?_ | refine wpList_seg_g rfl 24 _ rfl _ 3 (sA r.p) rfl _ _ _ _ xR Tryd.underlying24 rfl (by kernel_rfl) rfl ?_ | refine wpList_seg_g rfl 24 _ rfl _ 11 (sA r.q) rfl _ _ _ _ xR Tryd.underlying24 rfl (by kernel_rfl) rfl ?_)
              refine (hn1 _).mono ?_; rintro e W ⟨rfl, rfl⟩
              go_wp2_with fail
              go_ret2
              exact ⟨by rw [HE.out]; rfl, iR.2⟩
end Go.Proofs.YtgdgkgeoigljcaaDoor.Fo
