/-
  'lives' of the statements of areas, walked.
-/
import Derived.Test.YtoiccljmdplfgaaAr5
namespace Go.Proofs.Ytoiccljmdplfgaa.Ar
open Go.ChangeShapes Go.WideShapes Go.ChangeAt Go.RowKit Go.Shelf
open Go.Proofs.Ytoiccljmdplfgaa
open Go.Proofs.Ytoiccljmdplfgaa.Wd
open Go.Proofs.Ytoiccljmdplfgaa.Pl
open Go.Proofs.Ytoiccljmdplfgaa.Nv
set_option linter.unusedVariables false
theorem ars_of {w : World} {g : Nat} {t : TypeId} {cs : Array Value} {L : List Ae} (x : Blk w g t cs) (h : cs.toList = flatA L) (hp : ∀ a ∈ L, Pts w w.heap.size a.A a.n a.l ∧ a.z.size ≤ maxLen ∧ a.n ≤ maxLen) : Ars w w.heap.size (some ⟨g, 0, none⟩) L.length L := by
  refine ⟨rfl, ⟨flatA_len L, fun _ => ⟨_, rfl, x.lt, fun j u hu => ?_⟩⟩, hp⟩
  have e : (⟨g, 0, none⟩ : Addr).add j = ⟨g, j, none⟩ := by unfold Addr.add; split <;> simp_all
  rw [e, x.cell, ← Array.getElem?_toList, h]; exact hu
theorem pts_al {w : World} {A : Option Addr} {n : Nat} {l : List P2} (h : Pts w w.heap.size A n l) (o : Obj) : Pts (w.alloc o) (w.alloc o).heap.size A n l := Pts.more (h.below ((Below.refl _ _).alloc (Nat.le_refl _) _)) (by rw [sz1 _ _ rfl]; exact Nat.le_succ _)
theorem pts_ca {w w' : World} {A : Option Addr} {n : Nat} {l : List P2} (h : Pts w w.heap.size A n l) (hb : Below w.heap.size w w') : Pts w' w'.heap.size A n l := Pts.more (h.below hb) hb.size
abbrev lA : List P2 := [⟨0, 0⟩, ⟨0, 10⟩, ⟨10, 10⟩, ⟨10, 0⟩]
abbrev lB : List P2 := [⟨0, 0⟩, ⟨0, 100⟩, ⟨100, 0⟩]
theorem two_in {w : World} {ca cb : Addr} (pa : Pts w w.heap.size (some ca) 4 lA) (pb : Pts w w.heap.size (some cb) 3 lB) : ∀ a ∈ ([⟨⟨#[65, 47, 66]⟩, some ca, 4, 4, lA⟩, ⟨⟨#[66]⟩, some cb, 3, 3, lB⟩] : List Ae), Pts w w.heap.size a.A a.n a.l ∧ a.z.size ≤ maxLen ∧ a.n ≤ maxLen := by
  intro a ha
  simp only [List.mem_cons, List.not_mem_nil, or_false] at ha
  rcases ha with rfl | rfl
  · exact ⟨pa, (show 3 ≤ maxLen by decide), (show 4 ≤ maxLen by decide)⟩
  · exact ⟨pb, (show 1 ≤ maxLen by decide), (show 3 ≤ maxLen by decide)⟩
theorem lz1 {w : World} {g : Nat} {t : TypeId} {ca cb : Addr} (pa : Pts w w.heap.size (some ca) 4 lA) (pb : Pts w w.heap.size (some cb) 3 lB) (x : Blk w g t #[.string ⟨#[65, 47, 66]⟩, .slice (some ca) 4 4, .string ⟨#[66]⟩, .slice (some cb) 3 3]) :
    Calls Try.prog 21 #[.slice (some ⟨g, 0, none⟩) 2 2, .agg #[.int .i64 20, .int .i64 20]] w fun r w' => r = .returned (.tuple #[.string ⟨#[66]⟩, .int .i64 0]) ∧ Below w.heap.size w w' := by
  have := zone_any (some ⟨g, 0, none⟩) 2 2 [⟨⟨#[65, 47, 66]⟩, some ca, 4, 4, lA⟩, ⟨⟨#[66]⟩, some cb, 3, 3, lB⟩] ⟨20, 20⟩ w (ars_of x rfl (two_in pa pb)) (by decide)
  rwa [show zoS [⟨⟨#[65, 47, 66]⟩, some ca, 4, 4, lA⟩, ⟨⟨#[66]⟩, some cb, 3, 3, lB⟩] ⟨20, 20⟩ = ⟨#[66]⟩ by kernel_rfl, show zoE [⟨⟨#[65, 47, 66]⟩, some ca, 4, 4, lA⟩, ⟨⟨#[66]⟩, some cb, 3, 3, lB⟩] ⟨20, 20⟩ = 0 by kernel_rfl] at this
theorem lz2 {w : World} {g : Nat} {t : TypeId} {ca cb : Addr} (pa : Pts w w.heap.size (some ca) 4 lA) (pb : Pts w w.heap.size (some cb) 3 lB) (x : Blk w g t #[.string ⟨#[65, 47, 66]⟩, .slice (some ca) 4 4, .string ⟨#[66]⟩, .slice (some cb) 3 3]) :
    Calls Try.prog 21 #[.slice (some ⟨g, 0, none⟩) 2 2, .agg #[.int .i64 (-1), .int .i64 0]] w fun r w' => r = .returned (.tuple #[.string ByteArray.empty, .int .i64 3]) ∧ Below w.heap.size w w' := by
  have := zone_any (some ⟨g, 0, none⟩) 2 2 [⟨⟨#[65, 47, 66]⟩, some ca, 4, 4, lA⟩, ⟨⟨#[66]⟩, some cb, 3, 3, lB⟩] ⟨(-1), 0⟩ w (ars_of x rfl (two_in pa pb)) (by decide)
  rwa [show zoS [⟨⟨#[65, 47, 66]⟩, some ca, 4, 4, lA⟩, ⟨⟨#[66]⟩, some cb, 3, 3, lB⟩] ⟨(-1), 0⟩ = ByteArray.empty by kernel_rfl, show zoE [⟨⟨#[65, 47, 66]⟩, some ca, 4, 4, lA⟩, ⟨⟨#[66]⟩, some cb, 3, 3, lB⟩] ⟨(-1), 0⟩ = 3 by kernel_rfl] at this
theorem lz3 {w : World} {g : Nat} {t : TypeId} (x : Blk w g t #[.string ByteArray.empty, .slice none 0 0]) :
    Calls Try.prog 21 #[.slice (some ⟨g, 0, none⟩) 1 1, .agg #[.int .i64 0, .int .i64 0]] w fun r w' => r = .returned (.tuple #[.string ByteArray.empty, .int .i64 2]) ∧ Below w.heap.size w w' := by
  have := zone_any (some ⟨g, 0, none⟩) 1 1 [⟨ByteArray.empty, none, 0, 0, []⟩] ⟨0, 0⟩ w (ars_of (L := [⟨ByteArray.empty, none, 0, 0, []⟩]) x rfl (fun a ha => by rw [List.mem_singleton.1 ha]; exact ⟨⟨rfl, Reads.none_⟩, (show 0 ≤ maxLen by decide), (show 0 ≤ maxLen by decide)⟩)) (by decide)
  rwa [show zoS [⟨ByteArray.empty, none, 0, 0, []⟩] ⟨0, 0⟩ = ByteArray.empty by kernel_rfl, show zoE [⟨ByteArray.empty, none, 0, 0, []⟩] ⟨0, 0⟩ = 2 by kernel_rfl] at this
theorem le1 {w : World} {ca : Addr} (pa : Pts w w.heap.size (some ca) 4 lA) :
    Calls Try.prog 27 #[arV ⟨#[65, 47, 66]⟩ (some ca) 4 4, .agg #[.int .i64 5, .int .i64 5]] w fun e w' => e = .returned (.bool true) ∧ Below w.heap.size w w' := by
  have := Inside_any ⟨#[65, 47, 66]⟩ (some ca) 4 4 lA ⟨5, 5⟩ w (by decide) pa (by decide)
  rwa [show (rtB ⟨#[65, 47, 66]⟩ lA ⟨5, 5⟩ && inB lA ⟨5, 5⟩) = true by kernel_rfl] at this
theorem le2 {w : World} {ca : Addr} (pa : Pts w w.heap.size (some ca) 4 lA) :
    Calls Try.prog 27 #[arV ⟨#[65, 47, 66]⟩ (some ca) 4 4, .agg #[.int .i64 5, .int .i64 (-5)]] w fun e w' => e = .returned (.bool false) ∧ Below w.heap.size w w' := by
  have := Inside_any ⟨#[65, 47, 66]⟩ (some ca) 4 4 lA ⟨5, (-5)⟩ w (by decide) pa (by decide)
  rwa [show (rtB ⟨#[65, 47, 66]⟩ lA ⟨5, (-5)⟩ && inB lA ⟨5, (-5)⟩) = false by kernel_rfl] at this
theorem le3 {w : World} {ca : Addr} (pa : Pts w w.heap.size (some ca) 4 lA) :
    Calls Try.prog 27 #[arV ⟨#[65, 47, 66]⟩ (some ca) 4 4, .agg #[.int .i64 5, .int .i64 15]] w fun e w' => e = .returned (.bool false) ∧ Below w.heap.size w w' := by
  have := Inside_any ⟨#[65, 47, 66]⟩ (some ca) 4 4 lA ⟨5, 15⟩ w (by decide) pa (by decide)
  rwa [show (rtB ⟨#[65, 47, 66]⟩ lA ⟨5, 15⟩ && inB lA ⟨5, 15⟩) = false by kernel_rfl] at this
theorem le4 {w : World} {ca : Addr} (pa : Pts w w.heap.size (some ca) 4 lA) :
    Calls Try.prog 27 #[arV ⟨#[65, 47, 66]⟩ (some ca) 4 4, .agg #[.int .i64 10, .int .i64 3]] w fun e w' => e = .returned (.bool true) ∧ Below w.heap.size w w' := by
  have := Inside_any ⟨#[65, 47, 66]⟩ (some ca) 4 4 lA ⟨10, 3⟩ w (by decide) pa (by decide)
  rwa [show (rtB ⟨#[65, 47, 66]⟩ lA ⟨10, 3⟩ && inB lA ⟨10, 3⟩) = true by kernel_rfl] at this
theorem le5 {w : World} {ca : Addr} (pa : Pts w w.heap.size (some ca) 4 lA) :
    Calls Try.prog 25 #[arV ⟨#[65, 47, 66]⟩ (some ca) 4 4, .agg #[.int .i64 10, .int .i64 3]] w fun e w' => e = .returned (.bool true) ∧ Below w.heap.size w w' := by
  have := Edge_any ⟨#[65, 47, 66]⟩ (some ca) 4 4 lA ⟨10, 3⟩ w (by decide) pa (by decide)
  rwa [show (rtB ⟨#[65, 47, 66]⟩ lA ⟨10, 3⟩ && edB lA ⟨10, 3⟩) = true by kernel_rfl] at this
theorem le6 {w : World} {ca : Addr} (pa : Pts w w.heap.size (some ca) 4 lA) :
    Calls Try.prog 25 #[arV ⟨#[65, 47, 66]⟩ (some ca) 4 4, .agg #[.int .i64 5, .int .i64 5]] w fun e w' => e = .returned (.bool false) ∧ Below w.heap.size w w' := by
  have := Edge_any ⟨#[65, 47, 66]⟩ (some ca) 4 4 lA ⟨5, 5⟩ w (by decide) pa (by decide)
  rwa [show (rtB ⟨#[65, 47, 66]⟩ lA ⟨5, 5⟩ && edB lA ⟨5, 5⟩) = false by kernel_rfl] at this
theorem le7 {w : World} {ca : Addr} (pa : Pts w w.heap.size (some ca) 4 lA) :
    Calls Try.prog 29 #[arV ⟨#[65, 47, 66]⟩ (some ca) 4 4] w fun e w' => e = .returned (.int .i64 200) ∧ Below w.heap.size w w' := by
  have := size_any ⟨#[65, 47, 66]⟩ (some ca) 4 4 lA w (by decide) pa (by decide)
  rwa [show szV ⟨#[65, 47, 66]⟩ lA = 200 by kernel_rfl] at this
theorem le8 {w : World} {ca : Addr} (pa : Pts w w.heap.size (some ca) 4 lA) :
    Calls Try.prog 23 #[arV ⟨#[65, 47, 66]⟩ (some ca) 4 4] w fun e w' => e = .returned (.int .i64 0) ∧ Below w.heap.size w w' := by
  have := acheck_any ⟨#[65, 47, 66]⟩ (some ca) 4 4 w.heap.size lA w (by decide) pa (Nat.le_refl _) (by decide)
  rwa [show arE ⟨#[65, 47, 66]⟩ lA = 0 by kernel_rfl] at this
theorem pts_2 {w : World} {B : Nat} {ca : Addr} (pa : Pts w B (some ca) 4 lA) : Pts w B (some ca) 2 [⟨0, 0⟩, ⟨0, 10⟩] := by
  refine ⟨rfl, rfl, fun _ => ?_⟩
  obtain ⟨ad, e, hb, hc⟩ := pa.2.2 (by omega)
  obtain rfl := Option.some.inj e
  refine ⟨_, rfl, hb, fun j v hv => hc j v ?_⟩
  have hj : j < 4 := by
    rcases Nat.lt_or_ge j 4 with g | g
    · exact g
    · rw [List.getElem?_eq_none (by show 4 ≤ j; exact g)] at hv; cases hv
  rcases (show j = 0 ∨ j = 1 ∨ j = 2 ∨ j = 3 by omega) with rfl | rfl | rfl | rfl <;> exact hv
theorem le9 {w : World} {ca : Addr} (pa : Pts w w.heap.size (some ca) 4 lA) :
    Calls Try.prog 23 #[arV ⟨#[65]⟩ (some ca) 2 4] w fun e w' => e = .returned (.int .i64 2) ∧ Below w.heap.size w w' := by
  have := acheck_any ⟨#[65]⟩ (some ca) 2 4 w.heap.size [⟨0, 0⟩, ⟨0, 10⟩] w (by decide) (pts_2 pa) (Nat.le_refl _) (by decide)
  rwa [show arE ⟨#[65]⟩ [⟨0, 0⟩, ⟨0, 10⟩] = 2 by kernel_rfl] at this
set_option maxRecDepth 100000 in
set_option maxHeartbeats 6400000 in
theorem lives44_any (w : World) :
    Calls Try.prog 20 #[] w fun e w' => e = .returned (.bool true) ∧ Below w.heap.size w w' := by
  have i0 := BI.start w
  go_enter Try.func20, Try.ntmps20
  go_upto_region 3 with fail
  have i1 := (((i0.alloc (.cells #[.int .i64 0, .int .i64 0, .int .i64 0, .int .i64 10, .int .i64 10, .int .i64 10, .int .i64 10, .int .i64 0] 23)).alloc (.cells (arA ⟨#[65, 47, 66]⟩ (some ⟨w.heap.size, 0, none⟩) 4 4) 34)).alloc (.cells #[.int .i64 0, .int .i64 0, .int .i64 0, .int .i64 100, .int .i64 100, .int .i64 0] 23)).alloc (.cells (arA ⟨#[66]⟩ (some ⟨w.heap.size + 1 + 1, 0, none⟩) 3 3) 34)
  have xa := ((blk_at (w.alloc (.cells #[.int .i64 0, .int .i64 0, .int .i64 0, .int .i64 10, .int .i64 10, .int .i64 10, .int .i64 10, .int .i64 0] 23)) 34 (arA ⟨#[65, 47, 66]⟩ (some ⟨w.heap.size, 0, none⟩) 4 4) (sz1 _ _ rfl)).alloc (.cells #[.int .i64 0, .int .i64 0, .int .i64 0, .int .i64 100, .int .i64 100, .int .i64 0] 23)).alloc (.cells (arA ⟨#[66]⟩ (some ⟨w.heap.size + 1 + 1, 0, none⟩) 3 3) 34)
  have xb := blk_at (((w.alloc (.cells #[.int .i64 0, .int .i64 0, .int .i64 0, .int .i64 10, .int .i64 10, .int .i64 10, .int .i64 10, .int .i64 0] 23)).alloc (.cells (arA ⟨#[65, 47, 66]⟩ (some ⟨w.heap.size, 0, none⟩) 4 4) 34)).alloc (.cells #[.int .i64 0, .int .i64 0, .int .i64 0, .int .i64 100, .int .i64 100, .int .i64 0] 23)) 34 (arA ⟨#[66]⟩ (some ⟨w.heap.size + 1 + 1, 0, none⟩) 3 3) (sz1 _ _ (sz1 _ _ (sz1 _ _ rfl)))
  have pa : Pts _ _ (some ⟨w.heap.size, 0, none⟩) 4 lA := pts_al (pts_al (pts_al (pts_of (Blk.new w 23 #[.int .i64 0, .int .i64 0, .int .i64 0, .int .i64 10, .int .i64 10, .int .i64 10, .int .i64 10, .int .i64 0]) (l := lA) rfl) (.cells (arA ⟨#[65, 47, 66]⟩ (some ⟨w.heap.size, 0, none⟩) 4 4) 34)) (.cells #[.int .i64 0, .int .i64 0, .int .i64 0, .int .i64 100, .int .i64 100, .int .i64 0] 23)) (.cells (arA ⟨#[66]⟩ (some ⟨w.heap.size + 1 + 1, 0, none⟩) 3 3) 34)
  have pb : Pts _ _ (some ⟨w.heap.size + 1 + 1, 0, none⟩) 3 lB := pts_al (pts_of (blk_at ((w.alloc (.cells #[.int .i64 0, .int .i64 0, .int .i64 0, .int .i64 10, .int .i64 10, .int .i64 10, .int .i64 10, .int .i64 0] 23)).alloc (.cells (arA ⟨#[65, 47, 66]⟩ (some ⟨w.heap.size, 0, none⟩) 4 4) 34)) 23 #[.int .i64 0, .int .i64 0, .int .i64 0, .int .i64 100, .int .i64 100, .int .i64 0] (sz1 _ _ (sz1 _ _ rfl))) (l := lB) rfl) (.cells (arA ⟨#[66]⟩ (some ⟨w.heap.size + 1 + 1, 0, none⟩) 3 3) 34)
  generalize ((((w.alloc (.cells #[.int .i64 0, .int .i64 0, .int .i64 0, .int .i64 10, .int .i64 10, .int .i64 10, .int .i64 10, .int .i64 0] 23)).alloc (.cells (arA ⟨#[65, 47, 66]⟩ (some ⟨w.heap.size, 0, none⟩) 4 4) 34)).alloc (.cells #[.int .i64 0, .int .i64 0, .int .i64 0, .int .i64 100, .int .i64 100, .int .i64 0] 23)).alloc (.cells (arA ⟨#[66]⟩ (some ⟨w.heap.size + 1 + 1, 0, none⟩) 3 3) 34)) = W at *
  clear i0
  go_wp2_with (first | refine wpList_row_g rfl 34 _ rfl _ rfl _ _ _ _ xa Try.underlying34 rfl (by kernel_rfl) ?_ | refine wpList_row_g rfl 34 _ rfl _ rfl _ _ _ _ xb Try.underlying34 rfl (by kernel_rfl) ?_)
  refine (lz1 (pts_al pa _) (pts_al pb _) (Blk.new _ 34 _)).mono ?_; rintro e wk1 ⟨rfl, hk1⟩
  have i1_1 := ((i1.alloc _).call hk1)
  have xa_1 := ((xa.alloc _).below hk1 (xa.alloc _).lt)
  have xb_1 := ((xb.alloc _).below hk1 (xb.alloc _).lt)
  have pa_1 := (pts_ca (pts_al pa _) hk1)
  have pb_1 := (pts_ca (pts_al pb _) hk1)
  clear i1 xa xb pa pb hk1
  go_wp2_with (first | refine wpList_row_g rfl 34 _ rfl _ rfl _ _ _ _ xa_1 Try.underlying34 rfl (by kernel_rfl) ?_ | refine wpList_row_g rfl 34 _ rfl _ rfl _ _ _ _ xb_1 Try.underlying34 rfl (by kernel_rfl) ?_)
  refine (lz2 (pts_al pa_1 _) (pts_al pb_1 _) (Blk.new _ 34 _)).mono ?_; rintro e wk2 ⟨rfl, hk2⟩
  have i1_2 := ((i1_1.alloc _).call hk2)
  have xa_2 := ((xa_1.alloc _).below hk2 (xa_1.alloc _).lt)
  have xb_2 := ((xb_1.alloc _).below hk2 (xb_1.alloc _).lt)
  have pa_2 := (pts_ca (pts_al pa_1 _) hk2)
  have pb_2 := (pts_ca (pts_al pb_1 _) hk2)
  clear i1_1 xa_1 xb_1 pa_1 pb_1 hk2
  go_wp2_with fail
  refine (lz3 (Blk.new _ 34 _)).mono ?_; rintro e wk3 ⟨rfl, hk3⟩
  have i1_3 := ((i1_2.alloc _).call hk3)
  have xa_3 := ((xa_2.alloc _).below hk3 (xa_2.alloc _).lt)
  have pa_3 := (pts_ca (pts_al pa_2 _) hk3)
  clear i1_2 xa_2 xb_2 pa_2 pb_2 hk3
  go_upto_region 6 with fail
  simp only [List.append] at *
  go_wp2_with (first | refine wpList_row_g rfl 34 _ rfl _ rfl _ _ _ _ xa_3 Try.underlying34 rfl (by kernel_rfl) ?_)
  refine (le1 pa_3).mono ?_; rintro e wk4 ⟨rfl, hk4⟩
  have i1_4 := (i1_3.call hk4)
  have xa_4 := (xa_3.below hk4 xa_3.lt)
  have pa_4 := (pts_ca pa_3 hk4)
  clear i1_3 xa_3 pa_3 hk4
  go_wp2_with (first | refine wpList_row_g rfl 34 _ rfl _ rfl _ _ _ _ xa_4 Try.underlying34 rfl (by kernel_rfl) ?_)
  refine (le2 pa_4).mono ?_; rintro e wk5 ⟨rfl, hk5⟩
  have i1_5 := (i1_4.call hk5)
  have xa_5 := (xa_4.below hk5 xa_4.lt)
  have pa_5 := (pts_ca pa_4 hk5)
  clear i1_4 xa_4 pa_4 hk5
  go_wp2_with (first | refine wpList_row_g rfl 34 _ rfl _ rfl _ _ _ _ xa_5 Try.underlying34 rfl (by kernel_rfl) ?_)
  refine (le3 pa_5).mono ?_; rintro e wk6 ⟨rfl, hk6⟩
  have i1_6 := (i1_5.call hk6)
  have xa_6 := (xa_5.below hk6 xa_5.lt)
  have pa_6 := (pts_ca pa_5 hk6)
  clear i1_5 xa_5 pa_5 hk6
  go_wp2_with (first | refine wpList_row_g rfl 34 _ rfl _ rfl _ _ _ _ xa_6 Try.underlying34 rfl (by kernel_rfl) ?_)
  refine (le4 pa_6).mono ?_; rintro e wk7 ⟨rfl, hk7⟩
  have i1_7 := (i1_6.call hk7)
  have xa_7 := (xa_6.below hk7 xa_6.lt)
  have pa_7 := (pts_ca pa_6 hk7)
  clear i1_6 xa_6 pa_6 hk7
  go_wp2_with (first | refine wpList_row_g rfl 34 _ rfl _ rfl _ _ _ _ xa_7 Try.underlying34 rfl (by kernel_rfl) ?_)
  refine (le5 pa_7).mono ?_; rintro e wk8 ⟨rfl, hk8⟩
  have i1_8 := (i1_7.call hk8)
  have xa_8 := (xa_7.below hk8 xa_7.lt)
  have pa_8 := (pts_ca pa_7 hk8)
  clear i1_7 xa_7 pa_7 hk8
  go_wp2_with (first | refine wpList_row_g rfl 34 _ rfl _ rfl _ _ _ _ xa_8 Try.underlying34 rfl (by kernel_rfl) ?_)
  refine (le6 pa_8).mono ?_; rintro e wk9 ⟨rfl, hk9⟩
  have i1_9 := (i1_8.call hk9)
  have xa_9 := (xa_8.below hk9 xa_8.lt)
  have pa_9 := (pts_ca pa_8 hk9)
  clear i1_8 xa_8 pa_8 hk9
  go_wp2_with (first | refine wpList_row_g rfl 34 _ rfl _ rfl _ _ _ _ xa_9 Try.underlying34 rfl (by kernel_rfl) ?_)
  refine (le7 pa_9).mono ?_; rintro e wk10 ⟨rfl, hk10⟩
  have i1_10 := (i1_9.call hk10)
  have xa_10 := (xa_9.below hk10 xa_9.lt)
  have pa_10 := (pts_ca pa_9 hk10)
  clear i1_9 xa_9 pa_9 hk10
  go_wp2_with (first | refine wpList_row_g rfl 34 _ rfl _ rfl _ _ _ _ xa_10 Try.underlying34 rfl (by kernel_rfl) ?_)
  refine (le8 pa_10).mono ?_; rintro e wk11 ⟨rfl, hk11⟩
  have i1_11 := (i1_10.call hk11)
  have xa_11 := (xa_10.below hk11 xa_10.lt)
  have pa_11 := (pts_ca pa_10 hk11)
  clear i1_10 xa_10 pa_10 hk11
  have dl := xa_11.cell 1
  simp at dl
  go_wp2_with fail
  refine (le9 pa_11).mono ?_; rintro e wz ⟨rfl, hz⟩
  have iz := i1_11.call hz
  go_wp2_with fail
  go_ret
  exact ⟨rfl, iz⟩
end Go.Proofs.Ytoiccljmdplfgaa.Ar
