/-
  LAW 43's lives: walked.
-/
import Derived.Test.YtoiccljmdplfgaaNq4
namespace Go.Proofs.Ytoiccljmdplfgaa.Nr
open Go.ChangeShapes Go.WideShapes Go.ChangeAt Go.RowKit Go.Shelf
open Go.Proofs.Ytoiccljmdplfgaa
open Go.Proofs.Ytoiccljmdplfgaa.Wd
open Go.Proofs.Ytoiccljmdplfgaa.Pl
open Go.Proofs.Ytoiccljmdplfgaa.Nv
open Go.Proofs.Ytoiccljmdplfgaa.Ar
open Go.Proofs.Ytoiccljmdplfgaa.So (ordF ordF_pm ordF_sd ordF_eq sort_any Pm Sd Lt)
open Go.Proofs.Ytoiccljmdplfgaa.Sr (SoR Hd key net key_inj)
open Go.Proofs.Ytoiccljmdplfgaa.Lk (lead zone_any)
set_option linter.unusedVariables false
set_option linter.unusedSimpArgs false
set_option maxRecDepth 100000 in
set_option maxHeartbeats 12800000 in
theorem lives43_any (w : World) : Calls Try.prog 41 #[] w fun e w' => e = .returned (.bool true) ∧ Below w.heap.size w w' := by
  have xl := (Blk.new w 67 #[.string ⟨#[65]⟩, .int .i64 0, .int .i64 647000, .string ⟨#[120]⟩, .string ⟨#[66]⟩, .int .i64 0, .int .i64 (-647000), .string ⟨#[121]⟩, .string ⟨#[66]⟩, .int .i64 0, .int .i64 10, .string ⟨#[122]⟩]).alloc (.cells #[.int .i64 0, .int .i64 (-648000)] 23)
  have xp := blk_at (w.alloc (.cells #[.string ⟨#[65]⟩, .int .i64 0, .int .i64 647000, .string ⟨#[120]⟩, .string ⟨#[66]⟩, .int .i64 0, .int .i64 (-647000), .string ⟨#[121]⟩, .string ⟨#[66]⟩, .int .i64 0, .int .i64 10, .string ⟨#[122]⟩] 67)) 23 #[.int .i64 0, .int .i64 (-648000)] (sz1 _ _ rfl)
  have i1 := ((BI.start w).alloc (.cells #[.string ⟨#[65]⟩, .int .i64 0, .int .i64 647000, .string ⟨#[120]⟩, .string ⟨#[66]⟩, .int .i64 0, .int .i64 (-647000), .string ⟨#[121]⟩, .string ⟨#[66]⟩, .int .i64 0, .int .i64 10, .string ⟨#[122]⟩] 67)).alloc (.cells #[.int .i64 0, .int .i64 (-648000)] 23)
  go_enter Try.func41, Try.ntmps41
  go_upto_region 3 with (refine wpList_store_new rfl 23 _ _ rfl rfl (w.heap.size + 1) #[.int .i64 0, .int .i64 (-648000)] rfl rfl _ #[.int .i64 0, .int .i64 0] (w.alloc (.cells #[.string ⟨#[65]⟩, .int .i64 0, .int .i64 647000, .string ⟨#[120]⟩, .string ⟨#[66]⟩, .int .i64 0, .int .i64 (-647000), .string ⟨#[121]⟩, .string ⟨#[66]⟩, .int .i64 0, .int .i64 10, .string ⟨#[122]⟩] 67)) rfl (sz1 _ _ rfl).symm rfl (by kernel_rfl) (by kernel_rfl) ?_)
  generalize (w.alloc (.cells #[.string ⟨#[65]⟩, .int .i64 0, .int .i64 647000, .string ⟨#[120]⟩, .string ⟨#[66]⟩, .int .i64 0, .int .i64 (-647000), .string ⟨#[121]⟩, .string ⟨#[66]⟩, .int .i64 0, .int .i64 10, .string ⟨#[122]⟩] 67)).alloc (.cells #[.int .i64 0, .int .i64 (-648000)] 23) = W0 at *
  go_wp2_with (refine wpList_row_g rfl 23 _ rfl _ rfl _ _ _ _ xp Try.underlying23 rfl (by kernel_rfl) ?_)
  refine (o43 xl).mono ?_; rintro e w2 ⟨gA, rfl, hb, ra⟩
  replace xl := xl.below hb xl.lt; replace xp := xp.below hb xp.lt; replace i1 := i1.call hb
  clear hb
  go_wp2_with (refine wpList_row_g rfl 23 _ rfl _ rfl _ _ _ _ xp Try.underlying23 rfl (by kernel_rfl) ?_)
  refine (n43 xl).mono ?_; rintro e w3 ⟨rfl, hb⟩
  replace ra := row_below ra hb
  replace xl := xl.below hb xl.lt; replace xp := xp.below hb xp.lt; replace i1 := i1.call hb
  clear hb
  go_wp2_with (refine wpList_row_g rfl 23 _ rfl _ rfl _ _ _ _ xp Try.underlying23 rfl (by kernel_rfl) ?_)
  refine (n43n _).mono ?_; rintro e w4 ⟨rfl, hb⟩
  replace ra := row_below ra hb
  replace xl := xl.below hb xl.lt; replace xp := xp.below hb xp.lt; replace i1 := i1.call hb
  clear hb
  go_wp2_with (refine wpList_row_g rfl 23 _ rfl _ rfl _ _ _ _ xp Try.underlying23 rfl (by kernel_rfl) ?_)
  refine (w43 xl).mono ?_; rintro e w6 ⟨v, rfl, hb, rv⟩
  replace ra := row_below ra hb
  replace xl := xl.below hb xl.lt; replace xp := xp.below hb xp.lt; replace i1 := i1.call hb
  clear hb
  obtain ⟨A1, c1, rfl⟩ := own_shape rv
  have rr := Reads.of_own rv
  clear rv
  have x1 := ((Blk.new w6 118 #[.string ⟨#[122]⟩, .slice none 0 0]).alloc (.cells #[.string ⟨#[122]⟩, .string ⟨#[121]⟩] 120)).alloc (.cells (Q43 w6.heap.size (w6.heap.size + 1)).C 65)
  have x2 := (blk_at (w6.alloc (.cells #[.string ⟨#[122]⟩, .slice none 0 0] 118)) 120 #[.string ⟨#[122]⟩, .string ⟨#[121]⟩] (sz1 _ _ rfl)).alloc (.cells (Q43 w6.heap.size (w6.heap.size + 1)).C 65)
  have x3 := blk_at ((w6.alloc (.cells #[.string ⟨#[122]⟩, .slice none 0 0] 118)).alloc (.cells #[.string ⟨#[122]⟩, .string ⟨#[121]⟩] 120)) 65 (Q43 w6.heap.size (w6.heap.size + 1)).C (sz1 _ _ (sz1 _ _ rfl))
  have hgrow : Below w6.heap.size w6 (((w6.alloc (.cells #[.string ⟨#[122]⟩, .slice none 0 0] 118)).alloc (.cells #[.string ⟨#[122]⟩, .string ⟨#[121]⟩] 120)).alloc (.cells (Q43 w6.heap.size (w6.heap.size + 1)).C 65)) := (((Below.refl _ w6).alloc (Nat.le_refl _) _).alloc (by simp) _).alloc (by simp; omega) _
  replace rr := (rr.below hgrow).more hgrow.size
  replace xl := xl.alloc (.cells #[.string ⟨#[122]⟩, .slice none 0 0] 118); replace xp := xp.alloc (.cells #[.string ⟨#[122]⟩, .slice none 0 0] 118); replace i1 := i1.alloc (.cells #[.string ⟨#[122]⟩, .slice none 0 0] 118)
  replace xl := xl.alloc (.cells #[.string ⟨#[122]⟩, .string ⟨#[121]⟩] 120); replace xp := xp.alloc (.cells #[.string ⟨#[122]⟩, .string ⟨#[121]⟩] 120); replace i1 := i1.alloc (.cells #[.string ⟨#[122]⟩, .string ⟨#[121]⟩] 120)
  replace xl := xl.alloc (.cells (Q43 w6.heap.size (w6.heap.size + 1)).C 65); replace xp := xp.alloc (.cells (Q43 w6.heap.size (w6.heap.size + 1)).C 65); replace i1 := i1.alloc (.cells (Q43 w6.heap.size (w6.heap.size + 1)).C 65)
  replace ra := ((ra.alloc (.cells #[.string ⟨#[122]⟩, .slice none 0 0] 118)).alloc (.cells #[.string ⟨#[122]⟩, .string ⟨#[121]⟩] 120)).alloc (.cells (Q43 w6.heap.size (w6.heap.size + 1)).C 65)
  clear hgrow
  go_upto_region 8 with (refine wpList_store_new rfl 65 _ _ rfl rfl (w6.heap.size + 1 + 1) (Q43 w6.heap.size (w6.heap.size + 1)).C rfl rfl _ #[.slice none 0 0, .slice none 0 0, .slice none 0 0] ((w6.alloc (.cells #[.string ⟨#[122]⟩, .slice none 0 0] 118)).alloc (.cells #[.string ⟨#[122]⟩, .string ⟨#[121]⟩] 120)) rfl (sz1 _ _ (sz1 _ _ rfl)).symm rfl (by kernel_rfl) (by kernel_rfl) ?_)
  generalize ((w6.alloc (.cells #[.string ⟨#[122]⟩, .slice none 0 0] 118)).alloc (.cells #[.string ⟨#[122]⟩, .string ⟨#[121]⟩] 120)).alloc (.cells (Q43 w6.heap.size (w6.heap.size + 1)).C 65) = W7 at *
  go_wp2_with (first | refine wpList_row_g rfl 23 _ rfl _ rfl _ _ _ _ xp Try.underlying23 rfl (by kernel_rfl) ?_ | refine wpList_row_g rfl 65 _ rfl _ rfl _ _ _ _ x3 Try.underlying65 rfl (by kernel_rfl) ?_)
  refine (z43 xl x1 x2).mono ?_; rintro e w8 ⟨rfl, hb⟩
  replace ra := row_below ra hb; replace rr := (rr.below hb).more hb.size
  replace xl := xl.below hb xl.lt; replace xp := xp.below hb xp.lt; replace i1 := i1.call hb
  clear hb
  clear x1 x2 x3
  go_wp2_with (refine wpList_row_g rfl 23 _ rfl _ rfl _ _ _ _ xp Try.underlying23 rfl (by kernel_rfl) ?_)
  refine (z43e xl).mono ?_; rintro e w9 ⟨rfl, hb⟩
  replace ra := row_below ra hb; replace rr := (rr.below hb).more hb.size
  replace xl := xl.below hb xl.lt; replace xp := xp.below hb xp.lt; replace i1 := i1.call hb
  clear hb
  have xz := Blk.new w9 67 #[.string ByteArray.empty, .int .i64 0, .int .i64 0, .string ByteArray.empty]
  have hgrow : Below w9.heap.size w9 (w9.alloc (.cells #[.string ByteArray.empty, .int .i64 0, .int .i64 0, .string ByteArray.empty] 67)) := (Below.refl _ w9).alloc (Nat.le_refl _) _
  replace rr := (rr.below hgrow).more hgrow.size
  replace xl := xl.alloc (.cells #[.string ByteArray.empty, .int .i64 0, .int .i64 0, .string ByteArray.empty] 67); replace xp := xp.alloc (.cells #[.string ByteArray.empty, .int .i64 0, .int .i64 0, .string ByteArray.empty] 67); replace i1 := i1.alloc (.cells #[.string ByteArray.empty, .int .i64 0, .int .i64 0, .string ByteArray.empty] 67)
  replace ra := ra.alloc (.cells #[.string ByteArray.empty, .int .i64 0, .int .i64 0, .string ByteArray.empty] 67)
  clear hgrow
  go_wp2_with (refine wpList_row_g rfl 23 _ rfl _ rfl _ _ _ _ xp Try.underlying23 rfl (by kernel_rfl) ?_)
  refine (o43e xz).mono ?_; rintro e w10 ⟨rfl, hb⟩
  replace ra := row_below ra hb; replace rr := (rr.below hb).more hb.size
  replace xl := xl.below hb xl.lt; replace xp := xp.below hb xp.lt; replace i1 := i1.call hb
  clear hb
  clear xz
  go_wp2_with fail
  refine (o43f xl).mono ?_; rintro e w11 ⟨rfl, hb⟩
  replace ra := row_below ra hb; replace rr := (rr.below hb).more hb.size
  replace xl := xl.below hb xl.lt; replace xp := xp.below hb xp.lt; replace i1 := i1.call hb
  clear hb
  clear xl xp
  have y1 := reads_blk (n := 3) (xs := iz [0, 1, 2]) (Blk.new w11 3 #[.int .i64 0, .int .i64 1, .int .i64 2]) rfl rfl
  have ya := reads_row (xs := iz [0, 1, 2]) (ra.alloc (.cells #[.int .i64 0, .int .i64 1, .int .i64 2] 3)) rfl (fun j hj => by rcases (show j = 0 ∨ j = 1 ∨ j = 2 by omega) with rfl | rfl | rfl <;> rfl)
  have hsa := same_any _ _ 3 3 3 3 [0, 1, 2] [0, 1, 2] _ _ _ ya y1 (by decide) (by decide)
  rw [decide_eq_true rfl] at hsa
  have hgrow : Below w11.heap.size w11 (w11.alloc (.cells #[.int .i64 0, .int .i64 1, .int .i64 2] 3)) := (Below.refl _ w11).alloc (Nat.le_refl _) _
  replace rr := (rr.below hgrow).more hgrow.size
  replace i1 := i1.alloc (.cells #[.int .i64 0, .int .i64 1, .int .i64 2] 3)
  clear hgrow ra y1 ya
  go_wp2_with fail
  refine hsa.mono ?_; rintro e w12 ⟨rfl, hb⟩
  replace rr := (rr.below hb).more hb.size
  replace i1 := i1.call hb
  clear hb hsa
  have y1 := reads_blk (n := 2) (xs := iz [0, 1]) (Blk.new w12 3 #[.int .i64 0, .int .i64 1]) rfl rfl
  have hgrow : Below w12.heap.size w12 (w12.alloc (.cells #[.int .i64 0, .int .i64 1] 3)) := (Below.refl _ w12).alloc (Nat.le_refl _) _
  replace rr := (rr.below hgrow).more hgrow.size
  have hsa := same_any _ _ 2 2 c1 2 [0, 1] [0, 1] _ _ _ rr y1 (by decide) (by decide)
  rw [decide_eq_true rfl] at hsa
  replace i1 := i1.alloc (.cells #[.int .i64 0, .int .i64 1] 3)
  clear hgrow rr y1
  go_wp2_with fail
  refine hsa.mono ?_; rintro e w13 ⟨rfl, hb⟩
  replace i1 := i1.call hb
  clear hb hsa
  go_wp2_with fail
  go_ret
  exact ⟨rfl, i1⟩
end Go.Proofs.Ytoiccljmdplfgaa.Nr
