/-
  footer.Text of what may be written, walked.
-/
import Derived.Test.YtgdgkgeoigljcaaDoorFo4
import Derived.Lib.BufferRead
namespace Go.Proofs.YtgdgkgeoigljcaaDoor.Fo
open Go.ChangeShapes Go.WideShapes Go.ChangeAt Go.RowKit Go.Shelf
open Go.Proofs.YtgdgkgeoigljcaaDoor
open Go.Proofs.YtgdgkgeoigljcaaDoor.Wd
open Go.Proofs.YtgdgkgeoigljcaaDoor.Rec
open Go.Proofs.YtgdgkgeoigljcaaDoor.Tb (Rc)
open Go.Proofs.YtgdgkgeoigljcaaDoor.Civ (Tab)
open Go.Lib (byteCells)
set_option linter.unusedVariables false
set_option linter.unusedSimpArgs false
theorem foE_ok {r : Rc} {a b : List UInt8} (h : foE r a b = 0) : r.ok = true ∧ each r.p = true ∧ each r.q = true ∧ nameB a = true ∧ (r.p.zero = false → nameB b = true) ∧ (r.p.zero = true → b = []) := by
  unfold foE at h
  by_cases h1 : r.ok = false
  · rw [if_pos h1] at h; simp at h
  rw [if_neg h1] at h
  by_cases h2 : (each r.p && each r.q) = false
  · rw [if_pos h2] at h; simp at h
  rw [if_neg h2] at h
  by_cases h3 : nameB a = false ∨ (r.p.zero = false ∧ nameB b = false) ∨ (r.p.zero = true ∧ b ≠ [])
  · rw [if_pos h3] at h; simp at h
  have h2' : (each r.p && each r.q) = true := by simpa using h2
  rw [Bool.and_eq_true] at h2'
  refine ⟨by simpa using h1, h2'.1, h2'.2, ?_, fun q => ?_, fun q => ?_⟩
  · cases e : nameB a with
    | true => rfl
    | false => exact absurd (Or.inl e) h3
  · cases e : nameB b with
    | true => rfl
    | false => exact absurd (Or.inr (Or.inl ⟨q, e⟩)) h3
  · exact Classical.byContradiction fun e => h3 (Or.inr (Or.inr ⟨q, e⟩))
/-- the text so far, and the record in its box -/
structure Wt (w W : World) (B0 gr : Nat) (r : Rc) (l : List UInt8) : Prop where
  hW : Wo W B0 B0 l
  b : Below w.heap.size w W
  p : Pw B0 W
  s : B0 ≤ W.heap.size
  x : Blk W gr 26 r.A
  n : gr < B0
  z : w.heap.size ≤ B0
theorem Wt.step {w W W' : World} {B0 gr : Nat} {r : Rc} {l l' : List UInt8} (h : Wt w W B0 gr r l) (q1 : Wo W' B0 B0 l') (q2 : Below B0 W W') : Wt w W' B0 gr r l' :=
  ⟨q1, h.b.trans (q2.mono h.z), h.p.on q2, Nat.le_trans h.s q2.size, h.x.below q2 h.n, h.n, h.z⟩
theorem wo_conv {w : World} {B0 g : Nat} {l : List UInt8} (h : Wo w B0 g l) : ∃ v, w.cell? ⟨g, 0, none⟩ = some v ∧ (convert 45 9 v).run Tryd.prog w = .ok (.string (B l)) w := by
  obtain ⟨_, v, hb, h⟩ := h
  refine ⟨v, hb.cell 0, ?_⟩
  rcases h.2 with ⟨rfl, h0⟩ | ⟨g, cap, cur, rfl, _, h3, _, _, _, h4⟩
  · have : l = [] := List.eq_nil_of_length_eq_zero h0
    subst this
    exact Lib.run_convert_nil_bytes w _ _ _ 0 Tryd.underlying45 Tryd.underlying5 Tryd.underlying9
  · exact run_convert_bytes_back w _ _ _ _ cap l Tryd.underlying45 Tryd.underlying5 Tryd.underlying9 (Lib.bytes_of_row h3 (by simpa using h4))
set_option maxRecDepth 100000 in
set_option maxHeartbeats 12800000 in
theorem ftext_ok (r : Rc) (a b : ByteArray) (w : World) (hT : Tab w) (hQ : Lib.TabIs Tryd.prog w "internal/strconv.uint64pow10" .u64 Lib.pow10Tab) (hB : r.Bd) (ha : a.size ≤ 1000) (hb0 : b.size ≤ 1000) (hE : foE r (L a) (L b) = 0) :
    Calls Tryd.prog 6 #[r.V, .string a, .string b] w fun e w' => e = .returned (.tuple #[.string (B (foT r (L a) (L b))), .int .i64 0]) ∧ Below w.heap.size w w' := by
  obtain ⟨hk, hp1, hq1, ha1, hb1, hb2⟩ := foE_ok hE
  obtain ⟨hzz, hcp, hcq, hstd, hdst⟩ := ok_parts hk
  have iR := (Civ.Inv.start hT).alloc (.cells r.A 26)
  have xR := Blk.new w 26 r.A
  have hck2 : ∀ W, Tab W → Calls Tryd.prog 12 #[r.V] W fun e w' => e = .returned (.int .i64 0) ∧ Below W.heap.size W w' := fun W h => by
    have := Rec.chk_any r.b r.c r.d r.p r.q W h hB; unfold rcE at this; rw [show rcOk r.b r.c r.d r.p r.q = true from hk] at this; exact this
  have he1 := each_any r.p; have he2 := each_any r.q
  rw [hp1] at he1; rw [hq1] at he2
  have hn1 := fun W => fname_any a W (by unfold maxLen; omega)
  rw [ha1] at hn1
  have zn : ∀ W : World, (binOp .neq 24 (.agg (sA r.p)) (.agg #[.int .u16 0, .int .u16 0, .int .u16 0, .int .u16 0, .int .u16 0, .int .u16 0, .int .u16 0, .int .u16 0])).run Tryd.prog W = .ok (.bool (!r.p.zero)) W := fun W => by
    have q := neq_stt r.p St.nil W
    rw [eqS_zero] at q; exact q
  have hoff : ∀ W, Calls Tryd.prog 16 #[r.V] W fun e w' => e = .returned (.tuple #[.int .i64 r.std, .int .i64 r.dst]) ∧ Below W.heap.size W w' := fun W => Rec.offs_any r.b r.c r.d r.p r.q W hB
  have LA : (nameT (L a)).length ≤ 1002 := by have := name_len (L a); rw [L_len] at this; omega
  have LB : (nameT (L b)).length ≤ 1002 := by have := name_len (L b); rw [L_len] at this; omega
  have LO := off_len r.std; have LD := off_len r.dst; have LP := st_len r.p; have LQ := st_len r.q
  clear hE hk hp1 hq1 ha1
  cases hz : r.p.zero with
  | true =>
    rw [hz] at zn
    have hbn := hb2 hz
    have hbs : b = ⟨#[]⟩ := by rw [← B_L b, hbn]
    subst hbs
    clear hb1 hb2 hbn hcp hcq hzz
    go_enter Tryd.func6, Tryd.ntmps6
    go_wp2_with (first | refine wpList_row_g rfl 26 _ rfl _ rfl _ _ _ _ xR Tryd.underlying26 rfl (by kernel_rfl) ?_ | refine wpList_seg_g rfl 24 _ rfl _ 3 (sA r.p) rfl _ _ _ _ xR Tryd.underlying24 rfl (by kernel_rfl) rfl ?_ | refine wpList_seg_g rfl 24 _ rfl _ 11 (sA r.q) rfl _ _ _ _ xR Tryd.underlying24 rfl (by kernel_rfl) rfl ?_)
    refine (hck2 _ iR.1).mono ?_; rintro e W1 ⟨rfl, hb⟩
    have i1 := iR.call hb; have x1 := xR.below hb xR.lt
    clear hb iR xR hck2
    have iR := i1; have xR := x1
    clear i1 x1
    go_wp2_with (first | refine wpList_row_g rfl 26 _ rfl _ rfl _ _ _ _ xR Tryd.underlying26 rfl (by kernel_rfl) ?_ | refine wpList_seg_g rfl 24 _ rfl _ 3 (sA r.p) rfl _ _ _ _ xR Tryd.underlying24 rfl (by kernel_rfl) rfl ?_ | refine wpList_seg_g rfl 24 _ rfl _ 11 (sA r.q) rfl _ _ _ _ xR Tryd.underlying24 rfl (by kernel_rfl) rfl ?_)
    refine (he1 _).mono ?_; rintro e W2 ⟨rfl, hb⟩
    have i1 := iR.call hb; have x1 := xR.below hb xR.lt
    clear hb iR xR he1
    have iR := i1; have xR := x1
    clear i1 x1
    go_wp2_with (first | refine wpList_row_g rfl 26 _ rfl _ rfl _ _ _ _ xR Tryd.underlying26 rfl (by kernel_rfl) ?_ | refine wpList_seg_g rfl 24 _ rfl _ 3 (sA r.p) rfl _ _ _ _ xR Tryd.underlying24 rfl (by kernel_rfl) rfl ?_ | refine wpList_seg_g rfl 24 _ rfl _ 11 (sA r.q) rfl _ _ _ _ xR Tryd.underlying24 rfl (by kernel_rfl) rfl ?_)
    refine (he2 _).mono ?_; rintro e W3 ⟨rfl, hb⟩
    have i1 := iR.call hb; have x1 := xR.below hb xR.lt
    clear hb iR xR he2
    have iR := i1; have xR := x1
    clear i1 x1
    go_wp2_with (first | refine wpList_row_g rfl 26 _ rfl _ rfl _ _ _ _ xR Tryd.underlying26 rfl (by kernel_rfl) ?_ | refine wpList_seg_g rfl 24 _ rfl _ 3 (sA r.p) rfl _ _ _ _ xR Tryd.underlying24 rfl (by kernel_rfl) rfl ?_ | refine wpList_seg_g rfl 24 _ rfl _ 11 (sA r.q) rfl _ _ _ _ xR Tryd.underlying24 rfl (by kernel_rfl) rfl ?_)
    refine (hn1 _).mono ?_; rintro e W ⟨rfl, rfl⟩
    go_wp2_with (refine wpList_row_g rfl 26 _ rfl _ rfl _ _ _ _ xR Tryd.underlying26 rfl (by kernel_rfl) ?_)
    refine (hoff _).mono ?_; rintro e V ⟨rfl, hb⟩
    have i1 := iR.call hb; have x1 := xR.below hb xR.lt
    have hQV := (Lib.tabBelow_of_tabIs hQ) V i1.2
    have hS0 : Wt w (V.alloc (.cells #[.slice none 0 0] 45)) V.heap.size w.heap.size r [] := ⟨Wo.new V, i1.2.alloc i1.2.size _, (Lib.tabBelow_of_tabIs hQV).on ((Below.refl _ _).alloc (Nat.le_refl _) _), by rw [sz1 _ _ rfl]; exact Nat.le_succ _, x1.alloc _, x1.lt, i1.2.size⟩
    clear hb iR xR i1 x1 hoff hn1 zn hT hQ hQV
    obtain ⟨l0, hl0⟩ : ∃ q : List UInt8, [] = q := ⟨_, rfl⟩
    rw [hl0] at hS0
    have n0 : l0.length ≤ 0 := by rw [← hl0]; exact Nat.le_refl _
    have m0 : l0.length ≤ 9000 := by omega
    have HL0 := Lib.hid hl0; clear hl0
    go_upto_region 10 with fail
    generalize hVW : V.alloc (.cells #[.slice none 0 0] 45) = V0 at *
    clear hVW
    generalize V.heap.size = B0 at *
    have hr := oname_any B0 B0 l0 a _ hS0.hW (by omega) (by omega) hS0.s
    go_wp2_with (fail)
    refine hr.mono ?_; rintro e V1 ⟨rfl, q1, q2, -⟩
    replace q1 : Wo V1 B0 B0 (l0 ++ nameT (L a)) := q1
    have n1 : (l0 ++ nameT (L a)).length ≤ l0.length + 1002 := by rw [List.length_append]; first | omega | (simp only [List.length_cons, List.length_nil]; omega)
    have m1 : (l0 ++ nameT (L a)).length ≤ 9000 := by omega
    obtain ⟨l1, hl1⟩ : ∃ q, l0 ++ nameT (L a) = q := ⟨_, rfl⟩
    rw [hl1] at q1 n1 m1
    have HL1 := Lib.hid hl1
    have hS1 := hS0.step q1 q2
    have xR1 := hS1.x
    clear hr hl1 q1 q2 hS0
    have hr := ooff_any B0 B0 l1 r.std _ hS1.hW hstd (by omega) hS1.s hS1.p
    go_wp2_with (fail)
    refine hr.mono ?_; rintro e V2 ⟨rfl, q1, q2, -⟩
    replace q1 : Wo V2 B0 B0 (l1 ++ offT r.std) := q1
    have n2 : (l1 ++ offT r.std).length ≤ l1.length + 6 := by rw [List.length_append]; first | omega | (simp only [List.length_cons, List.length_nil]; omega)
    have m2 : (l1 ++ offT r.std).length ≤ 9000 := by omega
    obtain ⟨l2, hl2⟩ : ∃ q, l1 ++ offT r.std = q := ⟨_, rfl⟩
    rw [hl2] at q1 n2 m2
    have HL2 := Lib.hid hl2
    have hS2 := hS1.step q1 q2
    have xR2 := hS2.x
    clear hr hl2 q1 q2 hS1
    have HE : foT r (L a) (L ⟨#[]⟩) = l2 := by
      rw [← HL2.out, ← HL1.out, ← HL0.out]
      unfold foT; rw [hz, if_pos rfl]; simp only [List.append_assoc, List.singleton_append, List.cons_append, List.nil_append, List.append_nil]
    have HE2 := Lib.hid HE; clear HE
    obtain ⟨v, c0, hcv⟩ := wo_conv hS2.hW
    go_wp2_with fail
    go_ret2
    exact ⟨by rw [HE2.out]; rfl, hS2.b⟩
  | false =>
    rw [hz] at zn
    have hp : Sh r.p := sh_of hB.p hz hcp
    have hq : Sh r.q := sh_of hB.q (by rw [← hzz]; exact hz) hcq
    have hn2 := fun W => fname_any b W (by unfold maxLen; omega)
    rw [hb1 hz] at hn2
    clear hb1 hb2 hcp hcq hzz
    go_enter Tryd.func6, Tryd.ntmps6
    go_wp2_with (first | refine wpList_row_g rfl 26 _ rfl _ rfl _ _ _ _ xR Tryd.underlying26 rfl (by kernel_rfl) ?_ | refine wpList_seg_g rfl 24 _ rfl _ 3 (sA r.p) rfl _ _ _ _ xR Tryd.underlying24 rfl (by kernel_rfl) rfl ?_ | refine wpList_seg_g rfl 24 _ rfl _ 11 (sA r.q) rfl _ _ _ _ xR Tryd.underlying24 rfl (by kernel_rfl) rfl ?_)
    refine (hck2 _ iR.1).mono ?_; rintro e W1 ⟨rfl, hb⟩
    have i1 := iR.call hb; have x1 := xR.below hb xR.lt
    clear hb iR xR hck2
    have iR := i1; have xR := x1
    clear i1 x1
    go_wp2_with (first | refine wpList_row_g rfl 26 _ rfl _ rfl _ _ _ _ xR Tryd.underlying26 rfl (by kernel_rfl) ?_ | refine wpList_seg_g rfl 24 _ rfl _ 3 (sA r.p) rfl _ _ _ _ xR Tryd.underlying24 rfl (by kernel_rfl) rfl ?_ | refine wpList_seg_g rfl 24 _ rfl _ 11 (sA r.q) rfl _ _ _ _ xR Tryd.underlying24 rfl (by kernel_rfl) rfl ?_)
    refine (he1 _).mono ?_; rintro e W2 ⟨rfl, hb⟩
    have i1 := iR.call hb; have x1 := xR.below hb xR.lt
    clear hb iR xR he1
    have iR := i1; have xR := x1
    clear i1 x1
    go_wp2_with (first | refine wpList_row_g rfl 26 _ rfl _ rfl _ _ _ _ xR Tryd.underlying26 rfl (by kernel_rfl) ?_ | refine wpList_seg_g rfl 24 _ rfl _ 3 (sA r.p) rfl _ _ _ _ xR Tryd.underlying24 rfl (by kernel_rfl) rfl ?_ | refine wpList_seg_g rfl 24 _ rfl _ 11 (sA r.q) rfl _ _ _ _ xR Tryd.underlying24 rfl (by kernel_rfl) rfl ?_)
    refine (he2 _).mono ?_; rintro e W3 ⟨rfl, hb⟩
    have i1 := iR.call hb; have x1 := xR.below hb xR.lt
    clear hb iR xR he2
    have iR := i1; have xR := x1
    clear i1 x1
    go_wp2_with (first | refine wpList_row_g rfl 26 _ rfl _ rfl _ _ _ _ xR Tryd.underlying26 rfl (by kernel_rfl) ?_ | refine wpList_seg_g rfl 24 _ rfl _ 3 (sA r.p) rfl _ _ _ _ xR Tryd.underlying24 rfl (by kernel_rfl) rfl ?_ | refine wpList_seg_g rfl 24 _ rfl _ 11 (sA r.q) rfl _ _ _ _ xR Tryd.underlying24 rfl (by kernel_rfl) rfl ?_)
    refine (hn1 _).mono ?_; rintro e W ⟨rfl, rfl⟩
    go_wp2_with fail
    refine (hn2 _).mono ?_; rintro e W ⟨rfl, rfl⟩
    go_wp2_with (refine wpList_row_g rfl 26 _ rfl _ rfl _ _ _ _ xR Tryd.underlying26 rfl (by kernel_rfl) ?_)
    refine (hoff _).mono ?_; rintro e V ⟨rfl, hb⟩
    clear hn2
    have i1 := iR.call hb; have x1 := xR.below hb xR.lt
    have hQV := (Lib.tabBelow_of_tabIs hQ) V i1.2
    have hS0 : Wt w (V.alloc (.cells #[.slice none 0 0] 45)) V.heap.size w.heap.size r [] := ⟨Wo.new V, i1.2.alloc i1.2.size _, (Lib.tabBelow_of_tabIs hQV).on ((Below.refl _ _).alloc (Nat.le_refl _) _), by rw [sz1 _ _ rfl]; exact Nat.le_succ _, x1.alloc _, x1.lt, i1.2.size⟩
    clear hb iR xR i1 x1 hoff hn1 zn hT hQ hQV
    obtain ⟨l0, hl0⟩ : ∃ q : List UInt8, [] = q := ⟨_, rfl⟩
    rw [hl0] at hS0
    have n0 : l0.length ≤ 0 := by rw [← hl0]; exact Nat.le_refl _
    have m0 : l0.length ≤ 9000 := by omega
    have HL0 := Lib.hid hl0; clear hl0
    go_upto_region 10 with fail
    generalize hVW : V.alloc (.cells #[.slice none 0 0] 45) = V0 at *
    clear hVW
    generalize V.heap.size = B0 at *
    have hr := oname_any B0 B0 l0 a _ hS0.hW (by omega) (by omega) hS0.s
    go_wp2_with (fail)
    refine hr.mono ?_; rintro e V1 ⟨rfl, q1, q2, -⟩
    replace q1 : Wo V1 B0 B0 (l0 ++ nameT (L a)) := q1
    have n1 : (l0 ++ nameT (L a)).length ≤ l0.length + 1002 := by rw [List.length_append]; first | omega | (simp only [List.length_cons, List.length_nil]; omega)
    have m1 : (l0 ++ nameT (L a)).length ≤ 9000 := by omega
    obtain ⟨l1, hl1⟩ : ∃ q, l0 ++ nameT (L a) = q := ⟨_, rfl⟩
    rw [hl1] at q1 n1 m1
    have HL1 := Lib.hid hl1
    have hS1 := hS0.step q1 q2
    have xR1 := hS1.x
    clear hr hl1 q1 q2 hS0
    have hr := ooff_any B0 B0 l1 r.std _ hS1.hW hstd (by omega) hS1.s hS1.p
    go_wp2_with (fail)
    refine hr.mono ?_; rintro e V2 ⟨rfl, q1, q2, -⟩
    replace q1 : Wo V2 B0 B0 (l1 ++ offT r.std) := q1
    have n2 : (l1 ++ offT r.std).length ≤ l1.length + 6 := by rw [List.length_append]; first | omega | (simp only [List.length_cons, List.length_nil]; omega)
    have m2 : (l1 ++ offT r.std).length ≤ 9000 := by omega
    obtain ⟨l2, hl2⟩ : ∃ q, l1 ++ offT r.std = q := ⟨_, rfl⟩
    rw [hl2] at q1 n2 m2
    have HL2 := Lib.hid hl2
    have hS2 := hS1.step q1 q2
    have xR2 := hS2.x
    clear hr hl2 q1 q2 hS1
    have hw3 : IntKind.i64.wrap (r.std + 3600) = r.std + 3600 := by simp [IntKind.wrap, IntKind.bits, IntKind.signed]; omega
    have hr := oname_any B0 B0 l2 b _ hS2.hW (by omega) (by omega) hS2.s
    go_wp2_with (fail)
    refine hr.mono ?_; rintro e V3 ⟨rfl, q1, q2, -⟩
    replace q1 : Wo V3 B0 B0 (l2 ++ nameT (L b)) := q1
    have n3 : (l2 ++ nameT (L b)).length ≤ l2.length + 1002 := by rw [List.length_append]; first | omega | (simp only [List.length_cons, List.length_nil]; omega)
    have m3 : (l2 ++ nameT (L b)).length ≤ 9000 := by omega
    obtain ⟨l3, hl3⟩ : ∃ q, l2 ++ nameT (L b) = q := ⟨_, rfl⟩
    rw [hl3] at q1 n3 m3
    have HL3 := Lib.hid hl3
    have hS3 := hS2.step q1 q2
    have xR3 := hS3.x
    clear hr hl3 q1 q2 hS2
    by_cases hd : r.dst = r.std + 3600
    · have hd1 : (r.dst != r.std + 3600) = false := by simp [hd]
      have HD := Lib.hid hd; clear hd
      have hr := raw_any B0 B0 l3 ⟨#[44]⟩ _ hS3.hW (by show l3.length + 1 ≤ _; omega) hS3.s
      go_wp2_with (fail)
      refine hr.mono ?_; rintro e V4 ⟨rfl, q1, q2, -⟩
      replace q1 : Wo V4 B0 B0 (l3 ++ [44]) := q1
      have n4 : (l3 ++ [44]).length ≤ l3.length + 1 := by rw [List.length_append]; first | omega | (simp only [List.length_cons, List.length_nil]; omega)
      have m4 : (l3 ++ [44]).length ≤ 9000 := by omega
      obtain ⟨l4, hl4⟩ : ∃ q, l3 ++ [44] = q := ⟨_, rfl⟩
      rw [hl4] at q1 n4 m4
      have HL4 := Lib.hid hl4
      have hS4 := hS3.step q1 q2
      have xR4 := hS4.x
      clear hr hl4 q1 q2 hS3
      have hr := ost_any B0 B0 l4 r.q _ hS4.hW hq (by omega) hS4.s hS4.p
      go_wp2_with (refine wpList_seg_g rfl 24 _ rfl _ 11 (sA r.q) rfl _ _ _ _ xR4 Tryd.underlying24 rfl (by kernel_rfl) rfl ?_)
      refine hr.mono ?_; rintro e V5 ⟨rfl, q1, q2, -⟩
      replace q1 : Wo V5 B0 B0 (l4 ++ stT r.q) := q1
      have n5 : (l4 ++ stT r.q).length ≤ l4.length + 18 := by rw [List.length_append]; first | omega | (simp only [List.length_cons, List.length_nil]; omega)
      have m5 : (l4 ++ stT r.q).length ≤ 9000 := by omega
      obtain ⟨l5, hl5⟩ : ∃ q, l4 ++ stT r.q = q := ⟨_, rfl⟩
      rw [hl5] at q1 n5 m5
      have HL5 := Lib.hid hl5
      have hS5 := hS4.step q1 q2
      have xR5 := hS5.x
      clear hr hl5 q1 q2 hS4
      have hr := raw_any B0 B0 l5 ⟨#[44]⟩ _ hS5.hW (by show l5.length + 1 ≤ _; omega) hS5.s
      go_wp2_with (fail)
      refine hr.mono ?_; rintro e V6 ⟨rfl, q1, q2, -⟩
      replace q1 : Wo V6 B0 B0 (l5 ++ [44]) := q1
      have n6 : (l5 ++ [44]).length ≤ l5.length + 1 := by rw [List.length_append]; first | omega | (simp only [List.length_cons, List.length_nil]; omega)
      have m6 : (l5 ++ [44]).length ≤ 9000 := by omega
      obtain ⟨l6, hl6⟩ : ∃ q, l5 ++ [44] = q := ⟨_, rfl⟩
      rw [hl6] at q1 n6 m6
      have HL6 := Lib.hid hl6
      have hS6 := hS5.step q1 q2
      have xR6 := hS6.x
      clear hr hl6 q1 q2 hS5
      have hr := ost_any B0 B0 l6 r.p _ hS6.hW hp (by omega) hS6.s hS6.p
      go_wp2_with (refine wpList_seg_g rfl 24 _ rfl _ 3 (sA r.p) rfl _ _ _ _ xR6 Tryd.underlying24 rfl (by kernel_rfl) rfl ?_)
      refine hr.mono ?_; rintro e V7 ⟨rfl, q1, q2, -⟩
      replace q1 : Wo V7 B0 B0 (l6 ++ stT r.p) := q1
      have n7 : (l6 ++ stT r.p).length ≤ l6.length + 18 := by rw [List.length_append]; first | omega | (simp only [List.length_cons, List.length_nil]; omega)
      have m7 : (l6 ++ stT r.p).length ≤ 9000 := by omega
      obtain ⟨l7, hl7⟩ : ∃ q, l6 ++ stT r.p = q := ⟨_, rfl⟩
      rw [hl7] at q1 n7 m7
      have HL7 := Lib.hid hl7
      have hS7 := hS6.step q1 q2
      have xR7 := hS7.x
      clear hr hl7 q1 q2 hS6
      have HE : foT r (L a) (L b) = l7 := by
        rw [← HL7.out, ← HL6.out, ← HL5.out, ← HL4.out, ← HL3.out, ← HL2.out, ← HL1.out, ← HL0.out]
        unfold foT; rw [hz, if_neg (by decide), if_pos HD.out]; simp only [List.append_assoc, List.singleton_append, List.cons_append, List.nil_append, List.append_nil]
      have HE2 := Lib.hid HE; clear HE
      obtain ⟨v, c0, hcv⟩ := wo_conv hS7.hW
      go_wp2_with fail
      go_ret2
      exact ⟨by rw [HE2.out]; rfl, hS7.b⟩
    · have hd1 : (r.dst != r.std + 3600) = true := by simp [hd]
      have HD := Lib.hid hd; clear hd
      have hr := ooff_any B0 B0 l3 r.dst _ hS3.hW hdst (by omega) hS3.s hS3.p
      go_wp2_with (fail)
      refine hr.mono ?_; rintro e V4 ⟨rfl, q1, q2, -⟩
      replace q1 : Wo V4 B0 B0 (l3 ++ offT r.dst) := q1
      have n4 : (l3 ++ offT r.dst).length ≤ l3.length + 6 := by rw [List.length_append]; first | omega | (simp only [List.length_cons, List.length_nil]; omega)
      have m4 : (l3 ++ offT r.dst).length ≤ 9000 := by omega
      obtain ⟨l4, hl4⟩ : ∃ q, l3 ++ offT r.dst = q := ⟨_, rfl⟩
      rw [hl4] at q1 n4 m4
      have HL4 := Lib.hid hl4
      have hS4 := hS3.step q1 q2
      have xR4 := hS4.x
      clear hr hl4 q1 q2 hS3
      have hr := raw_any B0 B0 l4 ⟨#[44]⟩ _ hS4.hW (by show l4.length + 1 ≤ _; omega) hS4.s
      go_wp2_with (fail)
      refine hr.mono ?_; rintro e V5 ⟨rfl, q1, q2, -⟩
      replace q1 : Wo V5 B0 B0 (l4 ++ [44]) := q1
      have n5 : (l4 ++ [44]).length ≤ l4.length + 1 := by rw [List.length_append]; first | omega | (simp only [List.length_cons, List.length_nil]; omega)
      have m5 : (l4 ++ [44]).length ≤ 9000 := by omega
      obtain ⟨l5, hl5⟩ : ∃ q, l4 ++ [44] = q := ⟨_, rfl⟩
      rw [hl5] at q1 n5 m5
      have HL5 := Lib.hid hl5
      have hS5 := hS4.step q1 q2
      have xR5 := hS5.x
      clear hr hl5 q1 q2 hS4
      have hr := ost_any B0 B0 l5 r.q _ hS5.hW hq (by omega) hS5.s hS5.p
      go_wp2_with (refine wpList_seg_g rfl 24 _ rfl _ 11 (sA r.q) rfl _ _ _ _ xR5 Tryd.underlying24 rfl (by kernel_rfl) rfl ?_)
      refine hr.mono ?_; rintro e V6 ⟨rfl, q1, q2, -⟩
      replace q1 : Wo V6 B0 B0 (l5 ++ stT r.q) := q1
      have n6 : (l5 ++ stT r.q).length ≤ l5.length + 18 := by rw [List.length_append]; first | omega | (simp only [List.length_cons, List.length_nil]; omega)
      have m6 : (l5 ++ stT r.q).length ≤ 9000 := by omega
      obtain ⟨l6, hl6⟩ : ∃ q, l5 ++ stT r.q = q := ⟨_, rfl⟩
      rw [hl6] at q1 n6 m6
      have HL6 := Lib.hid hl6
      have hS6 := hS5.step q1 q2
      have xR6 := hS6.x
      clear hr hl6 q1 q2 hS5
      have hr := raw_any B0 B0 l6 ⟨#[44]⟩ _ hS6.hW (by show l6.length + 1 ≤ _; omega) hS6.s
      go_wp2_with (fail)
      refine hr.mono ?_; rintro e V7 ⟨rfl, q1, q2, -⟩
      replace q1 : Wo V7 B0 B0 (l6 ++ [44]) := q1
      have n7 : (l6 ++ [44]).length ≤ l6.length + 1 := by rw [List.length_append]; first | omega | (simp only [List.length_cons, List.length_nil]; omega)
      have m7 : (l6 ++ [44]).length ≤ 9000 := by omega
      obtain ⟨l7, hl7⟩ : ∃ q, l6 ++ [44] = q := ⟨_, rfl⟩
      rw [hl7] at q1 n7 m7
      have HL7 := Lib.hid hl7
      have hS7 := hS6.step q1 q2
      have xR7 := hS7.x
      clear hr hl7 q1 q2 hS6
      have hr := ost_any B0 B0 l7 r.p _ hS7.hW hp (by omega) hS7.s hS7.p
      go_wp2_with (refine wpList_seg_g rfl 24 _ rfl _ 3 (sA r.p) rfl _ _ _ _ xR7 Tryd.underlying24 rfl (by kernel_rfl) rfl ?_)
      refine hr.mono ?_; rintro e V8 ⟨rfl, q1, q2, -⟩
      replace q1 : Wo V8 B0 B0 (l7 ++ stT r.p) := q1
      have n8 : (l7 ++ stT r.p).length ≤ l7.length + 18 := by rw [List.length_append]; first | omega | (simp only [List.length_cons, List.length_nil]; omega)
      have m8 : (l7 ++ stT r.p).length ≤ 9000 := by omega
      obtain ⟨l8, hl8⟩ : ∃ q, l7 ++ stT r.p = q := ⟨_, rfl⟩
      rw [hl8] at q1 n8 m8
      have HL8 := Lib.hid hl8
      have hS8 := hS7.step q1 q2
      have xR8 := hS8.x
      clear hr hl8 q1 q2 hS7
      have HE : foT r (L a) (L b) = l8 := by
        rw [← HL8.out, ← HL7.out, ← HL6.out, ← HL5.out, ← HL4.out, ← HL3.out, ← HL2.out, ← HL1.out, ← HL0.out]
        unfold foT; rw [hz, if_neg (by decide), if_neg HD.out]; simp only [List.append_assoc, List.singleton_append, List.cons_append, List.nil_append, List.append_nil]
      have HE2 := Lib.hid HE; clear HE
      obtain ⟨v, c0, hcv⟩ := wo_conv hS8.hW
      go_wp2_with fail
      go_ret2
      exact ⟨by rw [HE2.out]; rfl, hS8.b⟩

end Go.Proofs.YtgdgkgeoigljcaaDoor.Fo
