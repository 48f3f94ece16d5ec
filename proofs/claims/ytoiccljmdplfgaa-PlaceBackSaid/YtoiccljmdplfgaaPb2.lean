/-
  Law 42's first question: the answers that the document gives.
-/
import Derived.Test.YtoiccljmdplfgaaPb1
namespace Go.Proofs.Ytoiccljmdplfgaa.Nr
open Go.ChangeShapes Go.WideShapes Go.ChangeAt Go.RowKit Go.Shelf
open Go.Proofs.Ytoiccljmdplfgaa
open Go.Proofs.Ytoiccljmdplfgaa.Wd
open Go.Proofs.Ytoiccljmdplfgaa.Pl
open Go.Proofs.Ytoiccljmdplfgaa.Nv
open Go.Proofs.Ytoiccljmdplfgaa.Ld
open Go.Proofs.Ytoiccljmdplfgaa.Pt (L B L_len ptE ptV pT txtT txtE ptext_any point_at V1 own_bel)
open Go.Proofs.Ytoiccljmdplfgaa.Scn (Fl B_len L_B faV faC)
set_option linter.unusedVariables false
set_option linter.unusedSimpArgs false
attribute [local go_sem ↓] Go.wp_at_zero Go.wp_at_succ
attribute [local go_sem ↓] ldP_sem ldFa_sem ldPc_sem
attribute [local go_sem] ldSem_run
theorem pcs_one {w : World} {g : Nat} {t : TypeId} {a : Pc} (x : Blk w g t a.C) (h : a.t.size ≤ maxLen ∧ a.z.size ≤ maxLen) : Pcs w w.heap.size (some ⟨g, 0, none⟩) 1 [a] := by
  refine ⟨rfl, ⟨rfl, fun _ => ⟨_, rfl, x.lt, fun j u hu => ?_⟩⟩, fun b hb => by rw [List.mem_singleton.1 hb]; exact h⟩
  have e : (⟨g, 0, none⟩ : Addr).add j = ⟨g, j, none⟩ := by unfold Addr.add; split <;> simp_all
  rw [e, x.cell, ← Array.getElem?_toList]; exact hu
theorem lp0 (W : World) : Calls Try.prog 34 #[.string ⟨#[43, 52, 56, 53, 50, 43, 48, 48, 50, 50, 48]⟩] W fun e w' => e = .returned (.tuple #[.agg #[.int .i64 175920, .int .i64 8400], .int .i64 0]) ∧ Below W.heap.size W w' := by
  have h := point_at ⟨#[43, 52, 56, 53, 50, 43, 48, 48, 50, 50, 48]⟩ W
  rw [show ptV (L ⟨#[43, 52, 56, 53, 50, 43, 48, 48, 50, 50, 48]⟩) = ⟨175920, 8400⟩ by kernel_rfl, show ptE (L ⟨#[43, 52, 56, 53, 50, 43, 48, 48, 50, 50, 48]⟩) = 0 by kernel_rfl] at h
  exact h
theorem lp1 (W : World) : Calls Try.prog 34 #[.string ⟨#[45, 51, 51, 53, 53, 51, 48, 45, 48, 55, 48, 51, 57, 52, 53]⟩] W fun e w' => e = .returned (.tuple #[.agg #[.int .i64 (-122130), .int .i64 (-254385)], .int .i64 0]) ∧ Below W.heap.size W w' := by
  have h := point_at ⟨#[45, 51, 51, 53, 53, 51, 48, 45, 48, 55, 48, 51, 57, 52, 53]⟩ W
  rw [show ptV (L ⟨#[45, 51, 51, 53, 53, 51, 48, 45, 48, 55, 48, 51, 57, 52, 53]⟩) = ⟨-122130, -254385⟩ by kernel_rfl, show ptE (L ⟨#[45, 51, 51, 53, 53, 51, 48, 45, 48, 55, 48, 51, 57, 52, 53]⟩) = 0 by kernel_rfl] at h
  exact h
theorem lp2 (W : World) : Calls Try.prog 34 #[.string ⟨#[45, 48, 48, 48, 48, 43, 48, 48, 48, 48, 48]⟩] W fun e w' => e = .returned (.tuple #[.agg #[.int .i64 0, .int .i64 0], .int .i64 4]) ∧ Below W.heap.size W w' := by
  have h := point_at ⟨#[45, 48, 48, 48, 48, 43, 48, 48, 48, 48, 48]⟩ W
  rw [show ptV (L ⟨#[45, 48, 48, 48, 48, 43, 48, 48, 48, 48, 48]⟩) = ⟨0, 0⟩ by kernel_rfl, show ptE (L ⟨#[45, 48, 48, 48, 48, 43, 48, 48, 48, 48, 48]⟩) = 4 by kernel_rfl] at h
  exact h
theorem lp3 (W : World) : Calls Try.prog 34 #[.string ⟨#[43, 52, 56, 53, 50, 48, 48, 43, 48, 48, 50, 50, 48, 48, 48]⟩] W fun e w' => e = .returned (.tuple #[.agg #[.int .i64 0, .int .i64 0], .int .i64 4]) ∧ Below W.heap.size W w' := by
  have h := point_at ⟨#[43, 52, 56, 53, 50, 48, 48, 43, 48, 48, 50, 50, 48, 48, 48]⟩ W
  rw [show ptV (L ⟨#[43, 52, 56, 53, 50, 48, 48, 43, 48, 48, 50, 50, 48, 48, 48]⟩) = ⟨0, 0⟩ by kernel_rfl, show ptE (L ⟨#[43, 52, 56, 53, 50, 48, 48, 43, 48, 48, 50, 50, 48, 48, 48]⟩) = 4 by kernel_rfl] at h
  exact h
theorem lp4 (W : World) : Calls Try.prog 34 #[.string ⟨#[43, 57, 48, 48, 49, 43, 48, 48, 48, 48, 48]⟩] W fun e w' => e = .returned (.tuple #[.agg #[.int .i64 0, .int .i64 0], .int .i64 4]) ∧ Below W.heap.size W w' := by
  have h := point_at ⟨#[43, 57, 48, 48, 49, 43, 48, 48, 48, 48, 48]⟩ W
  rw [show ptV (L ⟨#[43, 57, 48, 48, 49, 43, 48, 48, 48, 48, 48]⟩) = ⟨0, 0⟩ by kernel_rfl, show ptE (L ⟨#[43, 57, 48, 48, 49, 43, 48, 48, 48, 48, 48]⟩) = 4 by kernel_rfl] at h
  exact h
theorem lt0 (W : World) : Calls Try.prog 33 #[.agg #[.int .i64 (-122130), .int .i64 (-254385)]] W fun e w' => e = .returned (.tuple #[.string ⟨#[45, 51, 51, 53, 53, 51, 48, 45, 48, 55, 48, 51, 57, 52, 53]⟩, .int .i64 0]) ∧ Below W.heap.size W w' := by
  have h := ptext_any (-122130) (-254385) W
  rw [show B (txtT ⟨-122130, -254385⟩) = ⟨#[45, 51, 51, 53, 53, 51, 48, 45, 48, 55, 48, 51, 57, 52, 53]⟩ by kernel_rfl, show txtE ⟨-122130, -254385⟩ = 0 by kernel_rfl] at h
  exact h
theorem lq0 (W : World) : Calls Try.prog 38 #[.string ⟨#[35, 32, 120, 10, 70, 82, 32, 43, 52, 56, 53, 50, 43, 48, 48, 50, 50, 48, 32, 65, 47, 66, 32, 110, 111, 116, 101, 10]⟩] W fun e w' => ∃ A c, e = .returned (.tuple #[.slice A 1 c, .agg #[.int .i64 0, .int .i64 0, .int .i64 0]]) ∧ Pcs w' w'.heap.size A 1 [(⟨⟨#[70, 82]⟩, ⟨175920, 8400⟩, ⟨#[65, 47, 66]⟩⟩ : Pc)] ∧ Below W.heap.size W w' := by
  have h := par_any ⟨#[35, 32, 120, 10, 70, 82, 32, 43, 52, 56, 53, 50, 43, 48, 48, 50, 50, 48, 32, 65, 47, 66, 32, 110, 111, 116, 101, 10]⟩ W (by decide)
  rw [show parV (L ⟨#[35, 32, 120, 10, 70, 82, 32, 43, 52, 56, 53, 50, 43, 48, 48, 50, 50, 48, 32, 65, 47, 66, 32, 110, 111, 116, 101, 10]⟩) = .ok [(⟨⟨#[70, 82]⟩, ⟨175920, 8400⟩, ⟨#[65, 47, 66]⟩⟩ : Pc)] by kernel_rfl] at h
  refine h.mono ?_
  rintro e w' ⟨hb, A, n, c, rfl, hp⟩
  obtain rfl : 1 = n := hp.len
  exact ⟨A, c, rfl, hp, hb⟩
theorem lq1 (W : World) : Calls Try.prog 38 #[.string ⟨#[70, 82, 32, 43, 52, 56, 53, 50, 43, 48, 48, 50, 50, 48]⟩] W fun e w' => e = .returned (.tuple #[.slice none 0 0, .agg #[.int .i64 1, .int .i64 4, .int .i64 5]]) ∧ Below W.heap.size W w' := by
  have h := par_any ⟨#[70, 82, 32, 43, 52, 56, 53, 50, 43, 48, 48, 50, 50, 48]⟩ W (by decide)
  rw [show parV (L ⟨#[70, 82, 32, 43, 52, 56, 53, 50, 43, 48, 48, 50, 50, 48]⟩) = .bad 1 4 5 by kernel_rfl] at h
  refine h.mono ?_
  rintro e w' ⟨hb, rfl⟩
  exact ⟨rfl, hb⟩
theorem lq2 (W : World) : Calls Try.prog 38 #[.string ⟨#[70, 82, 32, 120, 32, 65]⟩] W fun e w' => e = .returned (.tuple #[.slice none 0 0, .agg #[.int .i64 1, .int .i64 4, .int .i64 4]]) ∧ Below W.heap.size W w' := by
  have h := par_any ⟨#[70, 82, 32, 120, 32, 65]⟩ W (by decide)
  rw [show parV (L ⟨#[70, 82, 32, 120, 32, 65]⟩) = .bad 1 4 4 by kernel_rfl] at h
  refine h.mono ?_
  rintro e w' ⟨hb, rfl⟩
  exact ⟨rfl, hb⟩
theorem pcs_alloc {w : World} {A : Option Addr} {n : Nat} {l : List Pc} (h : Pcs w w.heap.size A n l) (o : Obj) : Pcs (w.alloc o) (w.alloc o).heap.size A n l :=
  (h.below ((Below.refl _ _).alloc (Nat.le_refl _) o)).more ((Below.refl w.heap.size w).alloc (Nat.le_refl _) o).size
set_option maxRecDepth 100000 in
set_option maxHeartbeats 6400000 in
theorem lives42_any (w : World) : Calls Try.prog 35 #[] w fun e w' => e = .returned (.bool true) ∧ Below w.heap.size w w' := by
  go_enter Try.func35, Try.ntmps35
  go_wp2_with fail
  refine (lp0 _).mono ?_; rintro e w1 ⟨rfl, hb⟩
  have b1 := (Below.refl w.heap.size w).trans (hb.mono (Below.refl w.heap.size w).size)
  clear hb
  have y0 := Blk.new w1 23 #[.int .i64 175920, .int .i64 8400]
  have d1 := b1.alloc b1.size (.cells #[.int .i64 175920, .int .i64 8400] 23)
  clear b1
  go_wp2_with (first | (refine wpList_store_new rfl 23 _ _ rfl rfl w1.heap.size #[.int .i64 175920, .int .i64 8400] rfl rfl _ #[.int .i64 0, .int .i64 0] w1 rfl rfl rfl (by kernel_rfl) (by kernel_rfl) ?_))
  refine (lp1 _).mono ?_; rintro e w2 ⟨rfl, hb⟩
  have b2 := d1.trans (hb.mono d1.size)
  replace y0 := y0.below hb y0.lt
  clear hb d1
  have y1 := Blk.new w2 23 #[.int .i64 (-122130), .int .i64 (-254385)]
  replace y0 := y0.alloc (.cells #[.int .i64 (-122130), .int .i64 (-254385)] 23)
  have d2 := b2.alloc b2.size (.cells #[.int .i64 (-122130), .int .i64 (-254385)] 23)
  clear b2
  go_wp2_with (first | (refine wpList_store_new rfl 23 _ _ rfl rfl w2.heap.size #[.int .i64 (-122130), .int .i64 (-254385)] rfl rfl _ #[.int .i64 0, .int .i64 0] w2 rfl rfl rfl (by kernel_rfl) (by kernel_rfl) ?_))
  refine (lp2 _).mono ?_; rintro e w3 ⟨rfl, hb⟩
  have b3 := d2.trans (hb.mono d2.size)
  replace y0 := y0.below hb y0.lt
  replace y1 := y1.below hb y1.lt
  clear hb d2
  have y2 := Blk.new w3 23 #[.int .i64 0, .int .i64 0]
  replace y0 := y0.alloc (.cells #[.int .i64 0, .int .i64 0] 23)
  replace y1 := y1.alloc (.cells #[.int .i64 0, .int .i64 0] 23)
  have d3 := b3.alloc b3.size (.cells #[.int .i64 0, .int .i64 0] 23)
  clear b3
  go_wp2_with (first | (refine wpList_store_new rfl 23 _ _ rfl rfl w3.heap.size #[.int .i64 0, .int .i64 0] rfl rfl _ #[.int .i64 0, .int .i64 0] w3 rfl rfl rfl (by kernel_rfl) (by kernel_rfl) ?_))
  refine (lp3 _).mono ?_; rintro e w4 ⟨rfl, hb⟩
  have b4 := d3.trans (hb.mono d3.size)
  replace y0 := y0.below hb y0.lt
  replace y1 := y1.below hb y1.lt
  replace y2 := y2.below hb y2.lt
  clear hb d3
  have y3 := Blk.new w4 23 #[.int .i64 0, .int .i64 0]
  replace y0 := y0.alloc (.cells #[.int .i64 0, .int .i64 0] 23)
  replace y1 := y1.alloc (.cells #[.int .i64 0, .int .i64 0] 23)
  replace y2 := y2.alloc (.cells #[.int .i64 0, .int .i64 0] 23)
  have d4 := b4.alloc b4.size (.cells #[.int .i64 0, .int .i64 0] 23)
  clear b4
  go_wp2_with (first | (refine wpList_store_new rfl 23 _ _ rfl rfl w4.heap.size #[.int .i64 0, .int .i64 0] rfl rfl _ #[.int .i64 0, .int .i64 0] w4 rfl rfl rfl (by kernel_rfl) (by kernel_rfl) ?_))
  refine (lp4 _).mono ?_; rintro e w5 ⟨rfl, hb⟩
  have b5 := d4.trans (hb.mono d4.size)
  replace y0 := y0.below hb y0.lt
  replace y1 := y1.below hb y1.lt
  replace y2 := y2.below hb y2.lt
  replace y3 := y3.below hb y3.lt
  clear hb d4
  have y4 := Blk.new w5 23 #[.int .i64 0, .int .i64 0]
  replace y0 := y0.alloc (.cells #[.int .i64 0, .int .i64 0] 23)
  replace y1 := y1.alloc (.cells #[.int .i64 0, .int .i64 0] 23)
  replace y2 := y2.alloc (.cells #[.int .i64 0, .int .i64 0] 23)
  replace y3 := y3.alloc (.cells #[.int .i64 0, .int .i64 0] 23)
  have d5 := b5.alloc b5.size (.cells #[.int .i64 0, .int .i64 0] 23)
  clear b5
  go_wp2_with (first | (refine wpList_store_new rfl 23 _ _ rfl rfl w5.heap.size #[.int .i64 0, .int .i64 0] rfl rfl _ #[.int .i64 0, .int .i64 0] w5 rfl rfl rfl (by kernel_rfl) (by kernel_rfl) ?_) | (refine wpList_row_g rfl 23 _ rfl _ rfl _ _ _ _ y1 Try.underlying23 rfl (by kernel_rfl) ?_))
  refine (lt0 _).mono ?_; rintro e w6 ⟨rfl, hb⟩
  have b6 := d5.trans (hb.mono d5.size)
  replace y0 := y0.below hb y0.lt
  replace y1 := y1.below hb y1.lt
  replace y2 := y2.below hb y2.lt
  replace y3 := y3.below hb y3.lt
  replace y4 := y4.below hb y4.lt
  clear hb d5
  go_wp2_with fail
  refine (lq0 _).mono ?_; rintro e w7 ⟨A1, c1, rfl, hp, hb⟩
  have b7 := b6.trans (hb.mono b6.size)
  replace y0 := y0.below hb y0.lt
  replace y1 := y1.below hb y1.lt
  replace y2 := y2.below hb y2.lt
  replace y3 := y3.below hb y3.lt
  replace y4 := y4.below hb y4.lt
  clear hb b6
  have z0 := Blk.new w7 55 #[.int .i64 0, .int .i64 0, .int .i64 0]
  replace y0 := y0.alloc (.cells #[.int .i64 0, .int .i64 0, .int .i64 0] 55)
  replace y1 := y1.alloc (.cells #[.int .i64 0, .int .i64 0, .int .i64 0] 55)
  replace y2 := y2.alloc (.cells #[.int .i64 0, .int .i64 0, .int .i64 0] 55)
  replace y3 := y3.alloc (.cells #[.int .i64 0, .int .i64 0, .int .i64 0] 55)
  replace y4 := y4.alloc (.cells #[.int .i64 0, .int .i64 0, .int .i64 0] 55)
  replace hp := pcs_alloc hp (.cells #[.int .i64 0, .int .i64 0, .int .i64 0] 55)
  have d7 := b7.alloc b7.size (.cells #[.int .i64 0, .int .i64 0, .int .i64 0] 55)
  clear b7
  go_wp2_with (refine wpList_store_new rfl 55 _ _ rfl rfl w7.heap.size #[.int .i64 0, .int .i64 0, .int .i64 0] rfl rfl _ #[.int .i64 0, .int .i64 0, .int .i64 0] w7 rfl rfl rfl (by kernel_rfl) (by kernel_rfl) ?_)
  refine (lq1 _).mono ?_; rintro e w8 ⟨rfl, hb⟩
  have b8 := d7.trans (hb.mono d7.size)
  replace y0 := y0.below hb y0.lt
  replace y1 := y1.below hb y1.lt
  replace y2 := y2.below hb y2.lt
  replace y3 := y3.below hb y3.lt
  replace y4 := y4.below hb y4.lt
  replace z0 := z0.below hb z0.lt
  replace hp := (hp.below hb).more hb.size
  clear hb d7
  have z1 := Blk.new w8 55 #[.int .i64 1, .int .i64 4, .int .i64 5]
  replace y0 := y0.alloc (.cells #[.int .i64 1, .int .i64 4, .int .i64 5] 55)
  replace y1 := y1.alloc (.cells #[.int .i64 1, .int .i64 4, .int .i64 5] 55)
  replace y2 := y2.alloc (.cells #[.int .i64 1, .int .i64 4, .int .i64 5] 55)
  replace y3 := y3.alloc (.cells #[.int .i64 1, .int .i64 4, .int .i64 5] 55)
  replace y4 := y4.alloc (.cells #[.int .i64 1, .int .i64 4, .int .i64 5] 55)
  replace z0 := z0.alloc (.cells #[.int .i64 1, .int .i64 4, .int .i64 5] 55)
  replace hp := pcs_alloc hp (.cells #[.int .i64 1, .int .i64 4, .int .i64 5] 55)
  have d8 := b8.alloc b8.size (.cells #[.int .i64 1, .int .i64 4, .int .i64 5] 55)
  clear b8
  go_upto_region 9 with (refine wpList_store_new rfl 55 _ _ rfl rfl w8.heap.size #[.int .i64 1, .int .i64 4, .int .i64 5] rfl rfl _ #[.int .i64 0, .int .i64 0, .int .i64 0] w8 rfl rfl rfl (by kernel_rfl) (by kernel_rfl) ?_)
  simp only [List.append] at *
  go_wp2_with fail
  refine (lq2 _).mono ?_; rintro e w9 ⟨rfl, hb⟩
  have b9 := d8.trans (hb.mono d8.size)
  replace y0 := y0.below hb y0.lt
  replace y1 := y1.below hb y1.lt
  replace y2 := y2.below hb y2.lt
  replace y3 := y3.below hb y3.lt
  replace y4 := y4.below hb y4.lt
  replace z0 := z0.below hb z0.lt
  replace z1 := z1.below hb z1.lt
  replace hp := (hp.below hb).more hb.size
  clear hb d8
  have z2 := Blk.new w9 55 #[.int .i64 1, .int .i64 4, .int .i64 4]
  replace y0 := y0.alloc (.cells #[.int .i64 1, .int .i64 4, .int .i64 4] 55)
  replace y1 := y1.alloc (.cells #[.int .i64 1, .int .i64 4, .int .i64 4] 55)
  replace y2 := y2.alloc (.cells #[.int .i64 1, .int .i64 4, .int .i64 4] 55)
  replace y3 := y3.alloc (.cells #[.int .i64 1, .int .i64 4, .int .i64 4] 55)
  replace y4 := y4.alloc (.cells #[.int .i64 1, .int .i64 4, .int .i64 4] 55)
  replace z0 := z0.alloc (.cells #[.int .i64 1, .int .i64 4, .int .i64 4] 55)
  replace z1 := z1.alloc (.cells #[.int .i64 1, .int .i64 4, .int .i64 4] 55)
  replace hp := pcs_alloc hp (.cells #[.int .i64 1, .int .i64 4, .int .i64 4] 55)
  have d9 := b9.alloc b9.size (.cells #[.int .i64 1, .int .i64 4, .int .i64 4] 55)
  clear b9
  have ab : Blk ((w9.alloc (.cells #[.int .i64 1, .int .i64 4, .int .i64 4] 55)).alloc (.cells (⟨⟨#[70, 82]⟩, ⟨175920, 8400⟩, ⟨#[65, 47, 66]⟩⟩ : Pc).C 67)) (w9.heap.size + 1) 67 (⟨⟨#[70, 82]⟩, ⟨175920, 8400⟩, ⟨#[65, 47, 66]⟩⟩ : Pc).C := blk_at _ _ _ (sz1 _ _ rfl)
  go_wp2_with (first | (refine wpList_store_new rfl 55 _ _ rfl rfl w9.heap.size #[.int .i64 1, .int .i64 4, .int .i64 4] rfl rfl _ #[.int .i64 0, .int .i64 0, .int .i64 0] w9 rfl rfl rfl (by kernel_rfl) (by kernel_rfl) ?_) | (refine wpList_row_g rfl 23 _ rfl _ rfl _ _ _ _ y0 Try.underlying23 rfl (by kernel_rfl) ?_) | (refine wpList_row_g rfl 23 _ rfl _ rfl _ _ _ _ y1 Try.underlying23 rfl (by kernel_rfl) ?_))
  replace y0 := y0.alloc (.cells (⟨⟨#[70, 82]⟩, ⟨175920, 8400⟩, ⟨#[65, 47, 66]⟩⟩ : Pc).C 67)
  replace y1 := y1.alloc (.cells (⟨⟨#[70, 82]⟩, ⟨175920, 8400⟩, ⟨#[65, 47, 66]⟩⟩ : Pc).C 67)
  replace y2 := y2.alloc (.cells (⟨⟨#[70, 82]⟩, ⟨175920, 8400⟩, ⟨#[65, 47, 66]⟩⟩ : Pc).C 67)
  replace y3 := y3.alloc (.cells (⟨⟨#[70, 82]⟩, ⟨175920, 8400⟩, ⟨#[65, 47, 66]⟩⟩ : Pc).C 67)
  replace y4 := y4.alloc (.cells (⟨⟨#[70, 82]⟩, ⟨175920, 8400⟩, ⟨#[65, 47, 66]⟩⟩ : Pc).C 67)
  replace z0 := z0.alloc (.cells (⟨⟨#[70, 82]⟩, ⟨175920, 8400⟩, ⟨#[65, 47, 66]⟩⟩ : Pc).C 67)
  replace z1 := z1.alloc (.cells (⟨⟨#[70, 82]⟩, ⟨175920, 8400⟩, ⟨#[65, 47, 66]⟩⟩ : Pc).C 67)
  replace z2 := z2.alloc (.cells (⟨⟨#[70, 82]⟩, ⟨175920, 8400⟩, ⟨#[65, 47, 66]⟩⟩ : Pc).C 67)
  replace hp := pcs_alloc hp (.cells (⟨⟨#[70, 82]⟩, ⟨175920, 8400⟩, ⟨#[65, 47, 66]⟩⟩ : Pc).C 67)
  have e9 := d9.alloc d9.size (.cells (⟨⟨#[70, 82]⟩, ⟨175920, 8400⟩, ⟨#[65, 47, 66]⟩⟩ : Pc).C 67)
  clear d9
  have hab := pcs_one ab ⟨by unfold maxLen; decide, by unfold maxLen; decide⟩
  clear ab
  refine (same_pc A1 _ 1 1 c1 1 [(⟨⟨#[70, 82]⟩, ⟨175920, 8400⟩, ⟨#[65, 47, 66]⟩⟩ : Pc)] _ hp hab (by unfold maxLen; omega)).mono ?_; rintro e w10 ⟨rfl, hb⟩
  have b10 := e9.trans (hb.mono e9.size)
  replace y0 := y0.below hb y0.lt
  replace y1 := y1.below hb y1.lt
  replace y2 := y2.below hb y2.lt
  replace y3 := y3.below hb y3.lt
  replace y4 := y4.below hb y4.lt
  replace z0 := z0.below hb z0.lt
  replace z1 := z1.below hb z1.lt
  replace z2 := z2.below hb z2.lt
  replace hp := (hp.below hb).more hb.size
  clear hb e9
  clear hab
  have hck := pcheck_any A1 1 c1 [(⟨⟨#[70, 82]⟩, ⟨175920, 8400⟩, ⟨#[65, 47, 66]⟩⟩ : Pc)] w10 hp (by unfold maxLen; omega)
  rw [show pcE [(⟨⟨#[70, 82]⟩, ⟨175920, 8400⟩, ⟨#[65, 47, 66]⟩⟩ : Pc)] = 0 by kernel_rfl] at hck
  go_wp2_with (first | (refine wpList_row_g rfl 55 _ rfl _ rfl _ _ _ _ z0 Try.underlying55 rfl (by kernel_rfl) ?_) | (refine wpList_row_g rfl 55 _ rfl _ rfl _ _ _ _ z1 Try.underlying55 rfl (by kernel_rfl) ?_) | (refine wpList_row_g rfl 55 _ rfl _ rfl _ _ _ _ z2 Try.underlying55 rfl (by kernel_rfl) ?_))
  refine (hck).mono ?_; rintro e w11 ⟨rfl, hb⟩
  have b11 := b10.trans (hb.mono b10.size)
  replace y0 := y0.below hb y0.lt
  replace y1 := y1.below hb y1.lt
  replace y2 := y2.below hb y2.lt
  replace y3 := y3.below hb y3.lt
  replace y4 := y4.below hb y4.lt
  replace z0 := z0.below hb z0.lt
  replace z1 := z1.below hb z1.lt
  replace z2 := z2.below hb z2.lt
  replace hp := (hp.below hb).more hb.size
  clear hb b10
  have n0 := Blk.new w11 67 (Pc.C Pc.nil)
  have hcn := pcheck_any _ 1 1 [Pc.nil] _ (pcs_one n0 ⟨by unfold maxLen; decide, by unfold maxLen; decide⟩) (by unfold maxLen; omega)
  rw [show pcE [Pc.nil] = 2 by kernel_rfl] at hcn
  have f9 := b11.alloc b11.size (.cells (Pc.C Pc.nil) 67)
  clear b11
  go_wp2_with fail
  refine (hcn).mono ?_; rintro e w12 ⟨rfl, hb⟩
  have b12 := f9.trans (hb.mono f9.size)
  clear hb f9
  go_wp2_with fail
  go_ret
  exact ⟨rfl, b12⟩
end Go.Proofs.Ytoiccljmdplfgaa.Nr
