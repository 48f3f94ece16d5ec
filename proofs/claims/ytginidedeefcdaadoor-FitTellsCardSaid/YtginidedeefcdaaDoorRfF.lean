/-
  FIT, THE REFERENCE, walked: the record that is found.
-/
import Derived.Test.YtginidedeefcdaaDoorRfE
import Derived.Test.YtginidedeefcdaaDoorLd
import Derived.Deep.RegionHeld3
namespace Go.Proofs.YtginidedeefcdaaDoor.Ft
open Go.ChangeShapes Go.WideShapes Go.ChangeAt Go.RowKit
open Go.Proofs.YtginidedeefcdaaDoor
open Go.Proofs.YtginidedeefcdaaDoor.Wd
open Go.Proofs.YtginidedeefcdaaDoor.Rec
open Go.Proofs.YtginidedeefcdaaDoor.Yr
open Go.Proofs.YtginidedeefcdaaDoor.Tb
open Go.Proofs.YtginidedeefcdaaDoor.Ld
open Go.Proofs.YtginidedeefcdaaDoor.Clk (yrV yrE)
open Go.Proofs.YtginidedeefcdaaDoor.Civ (Tab Inv dateE)
set_option linter.unusedVariables false
set_option linter.unusedSimpArgs false
attribute [local go_sem ↓] ldR_sem ldS_sem
attribute [local go_sem] ldSem_run
set_option maxRecDepth 100000 in
set_option maxHeartbeats 12800000 in
theorem ryear_good (A : Option Addr) (n c : Nat) (l : List Sp) (Y T : Int) (p q : St) (w : World) (hT : Tab w) (hs : Spans w w.heap.size A n l) (hm : n ≤ 3) (hn1 : 1 ≤ n)
    (hoff : ∀ k, k < n → -86400 ≤ (at_ l k).o ∧ (at_ l k).o ≤ 86400) (hf : ∀ k, k < n → -62135596800 ≤ (at_ l k).f ∧ (at_ l k).f ≤ 253402300800)
    (hY : Y ≤ 9999) (hY1 : 1601 ≤ Y)
    (hen : ∀ w, Tab w → Calls Tryd.prog 18 #[.int .i64 Y] w fun e w' => e = .returned (.tuple #[.agg (sA p), .agg (sA q), .int .i64 0]) ∧ Below w.heap.size w w')
    (his : ∀ w, Spans w w.heap.size A n l → Calls Tryd.prog 44 #[.slice A n c, .int .i64 Y] w fun e w' => e = .returned (.bool true) ∧ Below w.heap.size w w')
    (hwy : ∀ w, Spans w w.heap.size A n l → Calls Tryd.prog 45 #[.slice A n c, .int .i64 Y] w fun e w' => e = .returned (.int .u8 0) ∧ Below w.heap.size w w')
    (hbg : ∀ w, Calls Tryd.prog 47 #[.int .i64 (Y + 1)] w fun e w' => e = .returned (.tuple #[.int .i64 T, .int .i64 0]) ∧ w = w')
    (Z : Int → St) (E : Int → Int) (hst : ∀ v, -62135683200 ≤ v → v ≤ 253402387200 → ∀ w, Tab w → Calls Tryd.prog 16 #[.int .i64 v] w fun e w' => e = .returned (.tuple #[.agg (sA (Z v)), .int .i64 (E v)]) ∧ Below w.heap.size w w')
    (P : Nat → St) (Q : Nat → St) (S : Nat → St)
    (hP0 : P 0 = if 0 < lastO true l 0 then p else q) (hQ0 : Q 0 = if 0 ≤ lastO false l 0 then p else q)
    (hS : ∀ k, k + 1 < n → S k = if ccV l (k + 1) = T then q else Z (ccV l (k + 1)))
    (hP : ∀ k, k + 1 < n → P (k + 1) = if (at_ l (k + 1)).d = false then S k else P k) (hQ : ∀ k, k + 1 < n → Q (k + 1) = if (at_ l (k + 1)).d = true then S k else Q k)
    (mkA : Array Value) (Em : Int) (hmk : ¬ (n = 1 ∧ (at_ l 0).d = false) → ∀ w, Tab w → Calls Tryd.prog 48 #[.int .i64 (lastO false l 0), .int .i64 (lastO true l 0), .agg (sA (P (n - 1))), .agg (sA (Q (n - 1)))] w fun e w' => e = .returned (.tuple #[.agg mkA, .int .i64 Em]) ∧ Below w.heap.size w w')
    (hpl : n = 1 ∧ (at_ l 0).d = false → ∀ w, Tab w → Calls Tryd.prog 46 #[.int .i64 (lastO false l 0)] w fun e w' => e = .returned (.tuple #[.agg mkA, .int .i64 Em]) ∧ Below w.heap.size w w')
    (hms : mkA.size = 19) (hm1 : mkA.all (·.oneCell') = true) :
    Calls Tryd.prog 14 #[.slice A n c, .int .i64 Y] w fun e w' => e = .returned (.tuple #[.agg mkA, .int .u8 0, .int .i64 0]) ∧ Below w.heap.size w w' := by
  have hln := hs.1
  have HF := Lib.hid hf; have HL := Lib.hid hln; have HOF := Lib.hid hoff; have HST := Lib.hid hst; have HP0 := Lib.hid hP0; have HQ0 := Lib.hid hQ0; have HS := Lib.hid hS; have HP := Lib.hid hP; have HQ := Lib.hid hQ; have HMS := Lib.hid hms; have HM1 := Lib.hid hm1
  have HMK := Lib.hid hmk; have HPL := Lib.hid hpl
  clear hf hln hoff hst hP0 hQ0 hS hP hQ hms hm1 hmk hpl
  have i0 := Inv.start hT
  have i1 := i0.alloc (.cells z19 28)
  have x1 := Blk.new w 28 z19
  have hsA := Lib.hid (fun (W : World) (h : Below w.heap.size w W) => hs.below h)
  clear hs
  have hm' : (n : Int) ≤ 3 := by omega
  have hn1' : 1 ≤ (n : Int) := by omega
  unfold z19 at x1 i1
  go_enter Tryd.func14, Tryd.ntmps14
  go_wp2_with fail
  refine (hen _ i1.1).mono ?_; rintro e w1 ⟨rfl, hb1⟩
  have i2 := i1.call hb1
  have x2 := x1.below hb1 x1.lt
  have zl2 : w.heap.size < w1.heap.size := x2.lt
  have i3 := (i2.alloc (.cells #[.int .u16 0, .int .u16 0, .int .u16 0, .int .u16 0, .int .u16 0, .int .u16 0, .int .u16 0, .int .u16 0] 26)).alloc (.cells #[.int .u16 0, .int .u16 0, .int .u16 0, .int .u16 0, .int .u16 0, .int .u16 0, .int .u16 0, .int .u16 0] 26)
  have x3 := (x2.alloc (.cells #[.int .u16 0, .int .u16 0, .int .u16 0, .int .u16 0, .int .u16 0, .int .u16 0, .int .u16 0, .int .u16 0] 26)).alloc (.cells #[.int .u16 0, .int .u16 0, .int .u16 0, .int .u16 0, .int .u16 0, .int .u16 0, .int .u16 0, .int .u16 0] 26)
  have a3 := (Blk.new w1 26 #[.int .u16 0, .int .u16 0, .int .u16 0, .int .u16 0, .int .u16 0, .int .u16 0, .int .u16 0, .int .u16 0]).alloc (.cells #[.int .u16 0, .int .u16 0, .int .u16 0, .int .u16 0, .int .u16 0, .int .u16 0, .int .u16 0, .int .u16 0] 26)
  have b3 : Blk ((w1.alloc (.cells #[.int .u16 0, .int .u16 0, .int .u16 0, .int .u16 0, .int .u16 0, .int .u16 0, .int .u16 0, .int .u16 0] 26)).alloc (.cells #[.int .u16 0, .int .u16 0, .int .u16 0, .int .u16 0, .int .u16 0, .int .u16 0, .int .u16 0, .int .u16 0] 26)) (w1.heap.size + 1) 26 #[.int .u16 0, .int .u16 0, .int .u16 0, .int .u16 0, .int .u16 0, .int .u16 0, .int .u16 0, .int .u16 0] := blk_at _ _ _ (sz1 w1 _ rfl)
  have a4 := Blk.row a3 #[.int .u16 p.y, .int .u16 p.m, .int .u16 p.v, .int .u16 p.d, .int .u16 p.h, .int .u16 p.i, .int .u16 p.s, .int .u16 p.u]
  have b4 := Blk.rowFar b3 (show w1.heap.size + 1 ≠ w1.heap.size by omega) #[.int .u16 p.y, .int .u16 p.m, .int .u16 p.v, .int .u16 p.d, .int .u16 p.h, .int .u16 p.i, .int .u16 p.s, .int .u16 p.u]
  have x4 := Blk.rowFar x3 (show w.heap.size ≠ w1.heap.size by omega) #[.int .u16 p.y, .int .u16 p.m, .int .u16 p.v, .int .u16 p.d, .int .u16 p.h, .int .u16 p.i, .int .u16 p.s, .int .u16 p.u]
  have a5 := Blk.rowFar a4 (show w1.heap.size ≠ w1.heap.size + 1 by omega) #[.int .u16 q.y, .int .u16 q.m, .int .u16 q.v, .int .u16 q.d, .int .u16 q.h, .int .u16 q.i, .int .u16 q.s, .int .u16 q.u]
  have b5 := Blk.row b4 #[.int .u16 q.y, .int .u16 q.m, .int .u16 q.v, .int .u16 q.d, .int .u16 q.h, .int .u16 q.i, .int .u16 q.s, .int .u16 q.u]
  have x5 := Blk.rowFar x4 (show w.heap.size ≠ w1.heap.size + 1 by omega) #[.int .u16 q.y, .int .u16 q.m, .int .u16 q.v, .int .u16 q.d, .int .u16 q.h, .int .u16 q.i, .int .u16 q.s, .int .u16 q.u]
  have i5 : Inv w ((((w1.alloc (.cells #[.int .u16 0, .int .u16 0, .int .u16 0, .int .u16 0, .int .u16 0, .int .u16 0, .int .u16 0, .int .u16 0] 26)).alloc (.cells #[.int .u16 0, .int .u16 0, .int .u16 0, .int .u16 0, .int .u16 0, .int .u16 0, .int .u16 0, .int .u16 0] 26)).setRow w1.heap.size #[.int .u16 p.y, .int .u16 p.m, .int .u16 p.v, .int .u16 p.d, .int .u16 p.h, .int .u16 p.i, .int .u16 p.s, .int .u16 p.u]).setRow (w1.heap.size + 1) #[.int .u16 q.y, .int .u16 q.m, .int .u16 q.v, .int .u16 q.d, .int .u16 q.h, .int .u16 q.i, .int .u16 q.s, .int .u16 q.u]) := inv_of hT (below_row (below_row i3.2 (by omega) _) (by omega) _)
  clear hen hb1 i2 x2 i3 x3 a4 x4 i1 x1 i0
  go_upto_region 4 with (first
    | refine wpList_store_g rfl 26 _ _ rfl rfl _ 0 #[.int .u16 p.y, .int .u16 p.m, .int .u16 p.v, .int .u16 p.d, .int .u16 p.h, .int .u16 p.i, .int .u16 p.s, .int .u16 p.u] #[.int .u16 p.y, .int .u16 p.m, .int .u16 p.v, .int .u16 p.d, .int .u16 p.h, .int .u16 p.i, .int .u16 p.s, .int .u16 p.u] rfl rfl _ _ a3 (by show 0 + 8 ≤ 8; decide) (by kernel_rfl) (by kernel_rfl) (by kernel_rfl) ?_
    | refine wpList_store_g rfl 26 _ _ rfl rfl _ 0 #[.int .u16 q.y, .int .u16 q.m, .int .u16 q.v, .int .u16 q.d, .int .u16 q.h, .int .u16 q.i, .int .u16 q.s, .int .u16 q.u] #[.int .u16 q.y, .int .u16 q.m, .int .u16 q.v, .int .u16 q.d, .int .u16 q.h, .int .u16 q.i, .int .u16 q.s, .int .u16 q.u] rfl rfl _ _ b4 (by show 0 + 8 ≤ 8; decide) (by kernel_rfl) (by kernel_rfl) (by kernel_rfl) ?_)
  clear a3 b3 b4
  generalize ((((w1.alloc (.cells #[.int .u16 0, .int .u16 0, .int .u16 0, .int .u16 0, .int .u16 0, .int .u16 0, .int .u16 0, .int .u16 0] 26)).alloc (.cells #[.int .u16 0, .int .u16 0, .int .u16 0, .int .u16 0, .int .u16 0, .int .u16 0, .int .u16 0, .int .u16 0] 26)).setRow w1.heap.size #[.int .u16 p.y, .int .u16 p.m, .int .u16 p.v, .int .u16 p.d, .int .u16 p.h, .int .u16 p.i, .int .u16 p.s, .int .u16 p.u]).setRow (w1.heap.size + 1) #[.int .u16 q.y, .int .u16 q.m, .int .u16 q.v, .int .u16 q.d, .int .u16 q.h, .int .u16 q.i, .int .u16 q.s, .int .u16 q.u]) = W5 at *
  have zl5 : w1.heap.size + 1 < W5.heap.size := b5.lt
  have zwg : w.heap.size < w1.heap.size := zl2
  generalize w1.heap.size = ga at *
  have hs5 := (hsA.out _ i5.2).more i5.2.size
  go_wp2_with fail
  refine (his _ hs5).mono ?_; rintro e w6 ⟨rfl, hb6⟩
  have i6 := i5.call hb6
  have x6 := x5.below hb6 x5.lt
  have a6 := a5.below hb6 a5.lt
  have b6 := b5.below hb6 b5.lt
  clear i5 x5 a5 b5 hb6 hs5 his
  have hs6 := (hsA.out _ i6.2).more i6.2.size
  go_wp2_with fail
  refine (hwy _ hs6).mono ?_; rintro e w7 ⟨rfl, hb7⟩
  have i7 := i6.call hb7
  have x7 := x6.below hb7 x6.lt
  have a7 := a6.below hb7 a6.lt
  have b7 := b6.below hb7 b6.lt
  clear i6 x6 a6 b6 hb7 hs6 hwy zl5 W5
  go_wp2_with fail
  go_loopw [51, 11, 12] (fun i s0 s1 wr => ∃ k : Nat, i = .int .i64 k ∧ s0 = .int .i64 (lastO false (l.take k) 0) ∧ s1 = .int .i64 (lastO true (l.take k) 0) ∧ k ≤ n ∧ Inv w wr ∧ Blk wr w.heap.size 28 #[.int .i32 0, .int .i32 0, .int .i32 0, .int .u16 0, .int .u16 0, .int .u16 0, .int .u16 0, .int .u16 0, .int .u16 0, .int .u16 0, .int .u16 0, .int .u16 0, .int .u16 0, .int .u16 0, .int .u16 0, .int .u16 0, .int .u16 0, .int .u16 0, .int .u16 0] ∧ Blk wr ga 26 #[.int .u16 p.y, .int .u16 p.m, .int .u16 p.v, .int .u16 p.d, .int .u16 p.h, .int .u16 p.i, .int .u16 p.s, .int .u16 p.u] ∧ Blk wr (ga + 1) 26 #[.int .u16 q.y, .int .u16 q.m, .int .u16 q.v, .int .u16 q.d, .int .u16 q.h, .int .u16 q.i, .int .u16 q.s, .int .u16 q.u]) (fun i _ _ _ => n - (intOf i).toNat)
  case atStart => exact ⟨0, rfl, rfl, rfl, Nat.zero_le _, i7, x7, a7, b7⟩
  case round =>
    clear i7 x7 a7 b7 w1
    obtain ⟨k, rfl, rfl, rfl, hk, hi, hx, ha, hb⟩ := hrel
    by_cases hlt : k < n
    · have hlt' : (k : Int) < (n : Int) := by omega
      obtain ⟨ad, rfl, r1⟩ := (hsA.out _ hi.2).row hlt
      have hl0 := lastO_take false (l := l) (k := k) (by rw [HL.out]; exact hlt) 0
      have hl1 := lastO_take true (l := l) (k := k) (by rw [HL.out]; exact hlt) 0
      obtain ⟨a, eA⟩ : ∃ a, at_ l k = a := ⟨_, rfl⟩
      rw [eA] at r1 hl0 hl1
      have HL0 := Lib.hid hl0; have HL1 := Lib.hid hl1
      clear hl0 hl1 eA
      generalize lastO false (l.take k) 0 = s0 at *
      generalize lastO true (l.take k) 0 = s1 at *
      have hi2 := hi.alloc (.cells #[.int .i64 a.f, .int .i64 a.o, .bool a.d] 40)
      have hx2 := hx.alloc (.cells #[.int .i64 a.f, .int .i64 a.o, .bool a.d] 40)
      have ha2 := ha.alloc (.cells #[.int .i64 a.f, .int .i64 a.o, .bool a.d] 40)
      have hb2 := hb.alloc (.cells #[.int .i64 a.f, .int .i64 a.o, .bool a.d] 40)
      clear hi hx ha hb
      obtain ⟨af, ao, adb⟩ := a
      cases adb
      · go_wp2_with (refine wpList_at_g rfl 40 _ rfl w.heap.size _ (Sp.A ⟨af, ao, _⟩) rfl _ r1 Tryd.underlying40 rfl (by kernel_rfl) ?_)
        go_roundw
        case rel => exact ⟨k + 1, by go_num, by rw [HL0.out]; rfl, by rw [HL1.out]; rfl, by omega, hi2, hx2, ha2, hb2⟩
        case measure => simp [intOf]; omega
      · go_wp2_with (refine wpList_at_g rfl 40 _ rfl w.heap.size _ (Sp.A ⟨af, ao, _⟩) rfl _ r1 Tryd.underlying40 rfl (by kernel_rfl) ?_)
        go_roundw
        case rel => exact ⟨k + 1, by go_num, by rw [HL0.out]; rfl, by rw [HL1.out]; rfl, by omega, hi2, hx2, ha2, hb2⟩
        case measure => simp [intOf]; omega
    · obtain rfl : n = k := by omega
      have hlt' : ¬ (n : Int) < (n : Int) := by omega
      rw [List.take_of_length_le (show l.length ≤ n by rw [HL.out]; exact Nat.le_refl _)]
      have hmk := HMK.out; have hpl := HPL.out
      clear HMK HPL
      obtain ⟨s0, e0⟩ : ∃ s0, lastO false l 0 = s0 := ⟨_, rfl⟩
      obtain ⟨s1, e1⟩ : ∃ s1, lastO true l 0 = s1 := ⟨_, rfl⟩
      rw [e0] at hmk hpl HQ0 ⊢
      rw [e1] at hmk HP0 ⊢
      clear e0 e1
      obtain ⟨ad, rfl, r0⟩ := (hsA.out _ hi.2).row (k := 0) (by omega)
      obtain ⟨g10, g11, g12, g13, g14⟩ := SpAt.of r0
      rw [Nat.zero_mul, add_zero] at g12 g14
      clear g10 g11 g13 r0
      by_cases hp1 : n = 1 ∧ (at_ l 0).d = false
      · have hpl := hpl hp1
        rw [hp1.2] at g12 g14
        have hne : ((n : Int) == 1) = true := by simp [hp1.1]
        clear hmk hp1
        go_wp2_with fail
        refine (hpl _ hi.1).mono ?_; rintro e wm ⟨rfl, hbm⟩
        have him := (hi.call hbm).alloc (.cells mkA 28)
        have hxm := (hx.below hbm hx.lt).alloc (.cells mkA 28)
        have hym := Blk.new wm 28 mkA
        clear hi hx ha hb g12 g14 hpl hbm
        go_wp2_with (first | refine wpList_store_new rfl 28 _ _ rfl rfl wm.heap.size mkA rfl rfl _ #[.int .i32 0, .int .i32 0, .int .i32 0, .int .u16 0, .int .u16 0, .int .u16 0, .int .u16 0, .int .u16 0, .int .u16 0, .int .u16 0, .int .u16 0, .int .u16 0, .int .u16 0, .int .u16 0, .int .u16 0, .int .u16 0, .int .u16 0, .int .u16 0, .int .u16 0] wm rfl rfl (by rw [HMS.out]; rfl) (by rw [HMS.out]; kernel_rfl) HM1.out ?_ | refine wpList_row_g rfl 28 _ rfl _ rfl _ _ _ _ hym Tryd.underlying28 rfl (by rw [HMS.out]; kernel_rfl) ?_ | refine wpList_store_g rfl 28 _ _ rfl rfl _ 0 mkA mkA rfl rfl _ _ hxm (by show 0 + mkA.size ≤ 19; rw [HMS.out]; decide) (by rw [HMS.out]; kernel_rfl) HM1.out (by rw [HMS.out]; simp) ?_)
        exact bodyPost_ret (res_ctt rfl _ _ _ _ mkA _ _ _ rfl rfl rfl (Blk.row hxm _) Tryd.underlying28 rfl (by rw [HMS.out]; kernel_rfl)) rfl ⟨rfl, below_row him.2 (Nat.le_refl _) _⟩
      · have hmk := hmk hp1
        clear hpl
        obtain ⟨W, rfl⟩ : ∃ W : World, W = wr := ⟨_, rfl⟩
        have hcase : ((n : Int) == 1) = false ∨ (((n : Int) == 1) = true ∧ (at_ l 0).d = true) := by
          by_cases e : n = 1
          · right; refine ⟨by simp [e], ?_⟩
            cases hd : (at_ l 0).d with
            | true => rfl
            | false => exact absurd ⟨e, hd⟩ hp1
          · left; simp; omega
        clear hp1
        have zga : ga + 1 < W.heap.size := hb.lt
        have zgw : w.heap.size < W.heap.size := hx.lt
        go_upto_region 17 with fail
        go_cut [71] (fun e_ wx => e_ = .bool false ∧ Inv w wx ∧ Blk wx w.heap.size 28 #[.int .i32 0, .int .i32 0, .int .i32 0, .int .u16 0, .int .u16 0, .int .u16 0, .int .u16 0, .int .u16 0, .int .u16 0, .int .u16 0, .int .u16 0, .int .u16 0, .int .u16 0, .int .u16 0, .int .u16 0, .int .u16 0, .int .u16 0, .int .u16 0, .int .u16 0] ∧ Blk wx ga 26 #[.int .u16 p.y, .int .u16 p.m, .int .u16 p.v, .int .u16 p.d, .int .u16 p.h, .int .u16 p.i, .int .u16 p.s, .int .u16 p.u] ∧ Blk wx (ga + 1) 26 #[.int .u16 q.y, .int .u16 q.m, .int .u16 q.v, .int .u16 q.d, .int .u16 q.h, .int .u16 q.i, .int .u16 q.s, .int .u16 q.u])
        case first =>
          rcases hcase with hc | ⟨hc, hd0⟩
          · go_wp2_with fail
            go_meet
            exact ⟨rfl, hi, hx, ha, hb⟩
          · rw [hd0] at g12 g14
            go_wp2_with fail
            go_meet
            exact ⟨rfl, hi, hx, ha, hb⟩
        case rest =>
          clear g12 g14 hcase hi hx ha hb zga zgw
          obtain ⟨rfl, hi, hx, ha, hb⟩ := hcut
          obtain ⟨W, rfl⟩ : ∃ W : World, W = wc := ⟨_, rfl⟩
          have zga : ga + 1 < W.heap.size := hb.lt
          have zgw : w.heap.size < W.heap.size := hx.lt
          go_upto_region 20 with fail
          go_cut [17, 18] (fun e_ f_ wx => ∃ gu gv : Nat, e_ = .pointer (some ⟨gu, 0, none⟩) ∧ f_ = .pointer (some ⟨gv, 0, none⟩) ∧ gu ≠ gv ∧ ga + 1 < gu ∧ ga + 1 < gv ∧ Inv w wx ∧ Blk wx w.heap.size 28 #[.int .i32 0, .int .i32 0, .int .i32 0, .int .u16 0, .int .u16 0, .int .u16 0, .int .u16 0, .int .u16 0, .int .u16 0, .int .u16 0, .int .u16 0, .int .u16 0, .int .u16 0, .int .u16 0, .int .u16 0, .int .u16 0, .int .u16 0, .int .u16 0, .int .u16 0] ∧ Blk wx ga 26 #[.int .u16 p.y, .int .u16 p.m, .int .u16 p.v, .int .u16 p.d, .int .u16 p.h, .int .u16 p.i, .int .u16 p.s, .int .u16 p.u] ∧ Blk wx (ga + 1) 26 #[.int .u16 q.y, .int .u16 q.m, .int .u16 q.v, .int .u16 q.d, .int .u16 q.h, .int .u16 q.i, .int .u16 q.s, .int .u16 q.u] ∧ Blk wx gu 26 #[.int .u16 q.y, .int .u16 q.m, .int .u16 q.v, .int .u16 q.d, .int .u16 q.h, .int .u16 q.i, .int .u16 q.s, .int .u16 q.u] ∧ Blk wx gv 26 #[.int .u16 q.y, .int .u16 q.m, .int .u16 q.v, .int .u16 q.d, .int .u16 q.h, .int .u16 q.i, .int .u16 q.s, .int .u16 q.u])
          case first =>
            have xd : Blk W.drew w.heap.size 28 #[.int .i32 0, .int .i32 0, .int .i32 0, .int .u16 0, .int .u16 0, .int .u16 0, .int .u16 0, .int .u16 0, .int .u16 0, .int .u16 0, .int .u16 0, .int .u16 0, .int .u16 0, .int .u16 0, .int .u16 0, .int .u16 0, .int .u16 0, .int .u16 0, .int .u16 0] := hx
            have ad0 : Blk W.drew ga 26 #[.int .u16 p.y, .int .u16 p.m, .int .u16 p.v, .int .u16 p.d, .int .u16 p.h, .int .u16 p.i, .int .u16 p.s, .int .u16 p.u] := ha
            have bd : Blk W.drew (ga + 1) 26 #[.int .u16 q.y, .int .u16 q.m, .int .u16 q.v, .int .u16 q.d, .int .u16 q.h, .int .u16 q.i, .int .u16 q.s, .int .u16 q.u] := hb
            have id0 := hi.drew
            clear hi hx ha hb hmk
            refine wp_region_held_drew (S := fun w' => ldT 26 (.pointer (some ⟨ga + 1, 0, none⟩)) w' = some #[.int .u16 q.y, .int .u16 q.m, .int .u16 q.v, .int .u16 q.d, .int .u16 q.h, .int .u16 q.i, .int .u16 q.s, .int .u16 q.u]) (by kernel_rfl) (ldT_of (ld_seg bd Tryd.underlying26 rfl (by kernel_rfl) (by kernel_rfl))) (fun hHeld => ?_)
            refine wpAnyH_take (i := 0) (oi := { dst := some 78, op := Op.load 26 (Operand.tmp 8), type := 26, pos := "ref.go:108", after := #[], guard := none }) (v := ?_) rfl (by kernel_rfl) (by kernel_rfl) (by kernel_rfl) (fun _ _ _ h => h) (Or.inl ⟨by rfl, ?_⟩) hHeld ?_
            rotate_left
            · intro w hSw
              try dsimp only at hSw
              go_simp
              try with_reducible rfl
            try simp only [Act.put, List.setIfInBounds_toArray, List.set_cons_zero, List.set_cons_succ]
            refine wpAnyH_take (i := 1) (oi := { dst := some 79, op := Op.load 26 (Operand.tmp 8), type := 26, pos := "ref.go:108", after := #[{ on := 4, ground := Ground.gcOnly Departure.lateStores }], guard := none }) (v := ?_) rfl (by kernel_rfl) (by kernel_rfl) (by kernel_rfl) (fun _ _ _ h => h) (Or.inl ⟨by rfl, ?_⟩) hHeld ?_
            rotate_left
            · intro w hSw
              try dsimp only at hSw
              go_simp
              try with_reducible rfl
            try simp only [Act.put, List.setIfInBounds_toArray, List.set_cons_zero, List.set_cons_succ]
            refine wpAnyH_ready (rs := [2, 3]) (by kernel_rfl) (by simp) ?_
            refine AllReadyH.cons (o := { dst := some 17, op := Op.alloc 26, type := 0, pos := "ref.go:108", after := #[], guard := none }) rfl (fun K hK => ?_) (AllReadyH.cons (o := { dst := some 18, op := Op.alloc 26, type := 0, pos := "ref.go:108", after := #[], guard := none }) rfl (fun K hK => ?_) (AllReadyH.nil))
            · skip
              go_simp
              refine hK.out _ _ (ldT_of (ld_seg (bd.alloc (.cells z8 26)) Tryd.underlying26 rfl (by kernel_rfl) (by kernel_rfl))) (fun hHeld2 => ?_)
              clear hK K hHeld; have hHeld := hHeld2; clear hHeld2
              try simp only [Act.put, List.setIfInBounds_toArray, List.set_cons_zero, List.set_cons_succ]
              refine wpAnyH_ready (rs := [3]) (by kernel_rfl) (by simp) ?_
              refine AllReadyH.cons (o := { dst := some 18, op := Op.alloc 26, type := 0, pos := "ref.go:108", after := #[], guard := none }) rfl (fun K hK => ?_) (AllReadyH.nil)
              go_simp
              refine hK.out _ _ (ldT_of (ld_seg ((bd.alloc (.cells z8 26)).alloc (.cells z8 26)) Tryd.underlying26 rfl (by kernel_rfl) (by kernel_rfl))) (fun hHeld2 => ?_)
              clear hK K hHeld; have hHeld := hHeld2; clear hHeld2
              try simp only [Act.put, List.setIfInBounds_toArray, List.set_cons_zero, List.set_cons_succ]
              refine wpAnyH_ready (rs := [4]) (by kernel_rfl) (by simp) ?_
              refine AllReadyH.cons (o := { dst := none, op := Op.store 26 (Operand.tmp 17) (Operand.tmp 78), type := 0, pos := "ref.go:108", after := #[{ on := 2, ground := Ground.data }, { on := 0, ground := Ground.data }, { on := 0, ground := Ground.phase }, { on := 1, ground := Ground.textOnly Departure.lateStores }, { on := 2, ground := Ground.phase }, { on := 3, ground := Ground.phase }], guard := none }) rfl (fun K hK => ?_) (AllReadyH.nil)
              refine wp_store_g 26 (.tmp 17) (.tmp 78) rfl rfl W.heap.size 0 #[.int .u16 q.y, .int .u16 q.m, .int .u16 q.v, .int .u16 q.d, .int .u16 q.h, .int .u16 q.i, .int .u16 q.s, .int .u16 q.u] #[.int .u16 q.y, .int .u16 q.m, .int .u16 q.v, .int .u16 q.d, .int .u16 q.h, .int .u16 q.i, .int .u16 q.s, .int .u16 q.u] rfl rfl _ z8 ((Blk.new W.drew 26 z8).alloc (.cells z8 26)) (by show 0 + 8 ≤ 8; decide) (by kernel_rfl) (by kernel_rfl) (by kernel_rfl) ?_
              refine hK.out _ _ (ldT_of (ld_seg (Blk.rowFar ((bd.alloc (.cells z8 26)).alloc (.cells z8 26)) (show ga + 1 ≠ W.heap.size by omega) #[.int .u16 q.y, .int .u16 q.m, .int .u16 q.v, .int .u16 q.d, .int .u16 q.h, .int .u16 q.i, .int .u16 q.s, .int .u16 q.u]) Tryd.underlying26 rfl (by kernel_rfl) (by kernel_rfl))) (fun hHeld2 => ?_)
              clear hK K hHeld; have hHeld := hHeld2; clear hHeld2
              try simp only [Act.put, List.setIfInBounds_toArray, List.set_cons_zero, List.set_cons_succ]
              refine wpAnyH_ready (rs := [5]) (by kernel_rfl) (by simp) ?_
              refine AllReadyH.cons (o := { dst := none, op := Op.store 26 (Operand.tmp 18) (Operand.tmp 79), type := 0, pos := "ref.go:108", after := #[{ on := 3, ground := Ground.data }, { on := 1, ground := Ground.data }, { on := 4, ground := Ground.chain }, { on := 0, ground := Ground.phase }, { on := 1, ground := Ground.phase }, { on := 2, ground := Ground.phase }, { on := 3, ground := Ground.phase }, { on := 4, ground := Ground.phase }], guard := none }) rfl (fun K hK => ?_) (AllReadyH.nil)
              refine wp_store_g 26 (.tmp 18) (.tmp 79) rfl rfl (W.heap.size + 1) 0 #[.int .u16 q.y, .int .u16 q.m, .int .u16 q.v, .int .u16 q.d, .int .u16 q.h, .int .u16 q.i, .int .u16 q.s, .int .u16 q.u] #[.int .u16 q.y, .int .u16 q.m, .int .u16 q.v, .int .u16 q.d, .int .u16 q.h, .int .u16 q.i, .int .u16 q.s, .int .u16 q.u] rfl rfl _ z8 (Blk.rowFar (blk_at (W.drew.alloc (.cells z8 26)) 26 z8 (sz1 _ _ rfl)) (show (W.heap.size + 1) ≠ W.heap.size by omega) #[.int .u16 q.y, .int .u16 q.m, .int .u16 q.v, .int .u16 q.d, .int .u16 q.h, .int .u16 q.i, .int .u16 q.s, .int .u16 q.u]) (by show 0 + 8 ≤ 8; decide) (by kernel_rfl) (by kernel_rfl) (by kernel_rfl) ?_
              refine hK.out _ _ (ldT_of (ld_seg (Blk.rowFar (Blk.rowFar ((bd.alloc (.cells z8 26)).alloc (.cells z8 26)) (show ga + 1 ≠ W.heap.size by omega) #[.int .u16 q.y, .int .u16 q.m, .int .u16 q.v, .int .u16 q.d, .int .u16 q.h, .int .u16 q.i, .int .u16 q.s, .int .u16 q.u]) (show ga + 1 ≠ (W.heap.size + 1) by omega) #[.int .u16 q.y, .int .u16 q.m, .int .u16 q.v, .int .u16 q.d, .int .u16 q.h, .int .u16 q.i, .int .u16 q.s, .int .u16 q.u]) Tryd.underlying26 rfl (by kernel_rfl) (by kernel_rfl))) (fun hHeld2 => ?_)
              clear hK K hHeld; have hHeld := hHeld2; clear hHeld2
              try simp only [Act.put, List.setIfInBounds_toArray, List.set_cons_zero, List.set_cons_succ]
              refine wpAnyH_done (by kernel_rfl) ?_ _
              clear hHeld
              go_wp2_with fail
              go_meet
              exact ⟨W.heap.size, (W.heap.size + 1), rfl, rfl, by omega, by omega, by omega, inv_of hT (below_row (below_row ((id0.2.alloc id0.2.size (.cells z8 26)).alloc (id0.2.alloc id0.2.size (.cells z8 26)).size (.cells z8 26)) (show w.heap.size ≤ W.heap.size by omega) #[.int .u16 q.y, .int .u16 q.m, .int .u16 q.v, .int .u16 q.d, .int .u16 q.h, .int .u16 q.i, .int .u16 q.s, .int .u16 q.u]) (show w.heap.size ≤ (W.heap.size + 1) by omega) #[.int .u16 q.y, .int .u16 q.m, .int .u16 q.v, .int .u16 q.d, .int .u16 q.h, .int .u16 q.i, .int .u16 q.s, .int .u16 q.u]), (Blk.rowFar (Blk.rowFar ((xd.alloc (.cells z8 26)).alloc (.cells z8 26)) (show w.heap.size ≠ W.heap.size by omega) #[.int .u16 q.y, .int .u16 q.m, .int .u16 q.v, .int .u16 q.d, .int .u16 q.h, .int .u16 q.i, .int .u16 q.s, .int .u16 q.u]) (show w.heap.size ≠ (W.heap.size + 1) by omega) #[.int .u16 q.y, .int .u16 q.m, .int .u16 q.v, .int .u16 q.d, .int .u16 q.h, .int .u16 q.i, .int .u16 q.s, .int .u16 q.u]), (Blk.rowFar (Blk.rowFar ((ad0.alloc (.cells z8 26)).alloc (.cells z8 26)) (show ga ≠ W.heap.size by omega) #[.int .u16 q.y, .int .u16 q.m, .int .u16 q.v, .int .u16 q.d, .int .u16 q.h, .int .u16 q.i, .int .u16 q.s, .int .u16 q.u]) (show ga ≠ (W.heap.size + 1) by omega) #[.int .u16 q.y, .int .u16 q.m, .int .u16 q.v, .int .u16 q.d, .int .u16 q.h, .int .u16 q.i, .int .u16 q.s, .int .u16 q.u]), (Blk.rowFar (Blk.rowFar ((bd.alloc (.cells z8 26)).alloc (.cells z8 26)) (show (ga + 1) ≠ W.heap.size by omega) #[.int .u16 q.y, .int .u16 q.m, .int .u16 q.v, .int .u16 q.d, .int .u16 q.h, .int .u16 q.i, .int .u16 q.s, .int .u16 q.u]) (show (ga + 1) ≠ (W.heap.size + 1) by omega) #[.int .u16 q.y, .int .u16 q.m, .int .u16 q.v, .int .u16 q.d, .int .u16 q.h, .int .u16 q.i, .int .u16 q.s, .int .u16 q.u]), (Blk.rowFar (Blk.row ((Blk.new W.drew 26 z8).alloc (.cells z8 26)) #[.int .u16 q.y, .int .u16 q.m, .int .u16 q.v, .int .u16 q.d, .int .u16 q.h, .int .u16 q.i, .int .u16 q.s, .int .u16 q.u]) (show W.heap.size ≠ (W.heap.size + 1) by omega) #[.int .u16 q.y, .int .u16 q.m, .int .u16 q.v, .int .u16 q.d, .int .u16 q.h, .int .u16 q.i, .int .u16 q.s, .int .u16 q.u]), (Blk.row (Blk.rowFar (blk_at (W.drew.alloc (.cells z8 26)) 26 z8 (sz1 _ _ rfl)) (show (W.heap.size + 1) ≠ W.heap.size by omega) #[.int .u16 q.y, .int .u16 q.m, .int .u16 q.v, .int .u16 q.d, .int .u16 q.h, .int .u16 q.i, .int .u16 q.s, .int .u16 q.u]) #[.int .u16 q.y, .int .u16 q.m, .int .u16 q.v, .int .u16 q.d, .int .u16 q.h, .int .u16 q.i, .int .u16 q.s, .int .u16 q.u])⟩
            · skip
              go_simp
              refine hK.out _ _ (ldT_of (ld_seg (bd.alloc (.cells z8 26)) Tryd.underlying26 rfl (by kernel_rfl) (by kernel_rfl))) (fun hHeld2 => ?_)
              clear hK K hHeld; have hHeld := hHeld2; clear hHeld2
              try simp only [Act.put, List.setIfInBounds_toArray, List.set_cons_zero, List.set_cons_succ]
              refine wpAnyH_ready (rs := [2]) (by kernel_rfl) (by simp) ?_
              refine AllReadyH.cons (o := { dst := some 17, op := Op.alloc 26, type := 0, pos := "ref.go:108", after := #[], guard := none }) rfl (fun K hK => ?_) (AllReadyH.nil)
              go_simp
              refine hK.out _ _ (ldT_of (ld_seg ((bd.alloc (.cells z8 26)).alloc (.cells z8 26)) Tryd.underlying26 rfl (by kernel_rfl) (by kernel_rfl))) (fun hHeld2 => ?_)
              clear hK K hHeld; have hHeld := hHeld2; clear hHeld2
              try simp only [Act.put, List.setIfInBounds_toArray, List.set_cons_zero, List.set_cons_succ]
              refine wpAnyH_ready (rs := [4]) (by kernel_rfl) (by simp) ?_
              refine AllReadyH.cons (o := { dst := none, op := Op.store 26 (Operand.tmp 17) (Operand.tmp 78), type := 0, pos := "ref.go:108", after := #[{ on := 2, ground := Ground.data }, { on := 0, ground := Ground.data }, { on := 0, ground := Ground.phase }, { on := 1, ground := Ground.textOnly Departure.lateStores }, { on := 2, ground := Ground.phase }, { on := 3, ground := Ground.phase }], guard := none }) rfl (fun K hK => ?_) (AllReadyH.nil)
              refine wp_store_g 26 (.tmp 17) (.tmp 78) rfl rfl (W.heap.size + 1) 0 #[.int .u16 q.y, .int .u16 q.m, .int .u16 q.v, .int .u16 q.d, .int .u16 q.h, .int .u16 q.i, .int .u16 q.s, .int .u16 q.u] #[.int .u16 q.y, .int .u16 q.m, .int .u16 q.v, .int .u16 q.d, .int .u16 q.h, .int .u16 q.i, .int .u16 q.s, .int .u16 q.u] rfl rfl _ z8 (blk_at (W.drew.alloc (.cells z8 26)) 26 z8 (sz1 _ _ rfl)) (by show 0 + 8 ≤ 8; decide) (by kernel_rfl) (by kernel_rfl) (by kernel_rfl) ?_
              refine hK.out _ _ (ldT_of (ld_seg (Blk.rowFar ((bd.alloc (.cells z8 26)).alloc (.cells z8 26)) (show ga + 1 ≠ (W.heap.size + 1) by omega) #[.int .u16 q.y, .int .u16 q.m, .int .u16 q.v, .int .u16 q.d, .int .u16 q.h, .int .u16 q.i, .int .u16 q.s, .int .u16 q.u]) Tryd.underlying26 rfl (by kernel_rfl) (by kernel_rfl))) (fun hHeld2 => ?_)
              clear hK K hHeld; have hHeld := hHeld2; clear hHeld2
              try simp only [Act.put, List.setIfInBounds_toArray, List.set_cons_zero, List.set_cons_succ]
              refine wpAnyH_ready (rs := [5]) (by kernel_rfl) (by simp) ?_
              refine AllReadyH.cons (o := { dst := none, op := Op.store 26 (Operand.tmp 18) (Operand.tmp 79), type := 0, pos := "ref.go:108", after := #[{ on := 3, ground := Ground.data }, { on := 1, ground := Ground.data }, { on := 4, ground := Ground.chain }, { on := 0, ground := Ground.phase }, { on := 1, ground := Ground.phase }, { on := 2, ground := Ground.phase }, { on := 3, ground := Ground.phase }, { on := 4, ground := Ground.phase }], guard := none }) rfl (fun K hK => ?_) (AllReadyH.nil)
              refine wp_store_g 26 (.tmp 18) (.tmp 79) rfl rfl W.heap.size 0 #[.int .u16 q.y, .int .u16 q.m, .int .u16 q.v, .int .u16 q.d, .int .u16 q.h, .int .u16 q.i, .int .u16 q.s, .int .u16 q.u] #[.int .u16 q.y, .int .u16 q.m, .int .u16 q.v, .int .u16 q.d, .int .u16 q.h, .int .u16 q.i, .int .u16 q.s, .int .u16 q.u] rfl rfl _ z8 (Blk.rowFar ((Blk.new W.drew 26 z8).alloc (.cells z8 26)) (show W.heap.size ≠ (W.heap.size + 1) by omega) #[.int .u16 q.y, .int .u16 q.m, .int .u16 q.v, .int .u16 q.d, .int .u16 q.h, .int .u16 q.i, .int .u16 q.s, .int .u16 q.u]) (by show 0 + 8 ≤ 8; decide) (by kernel_rfl) (by kernel_rfl) (by kernel_rfl) ?_
              refine hK.out _ _ (ldT_of (ld_seg (Blk.rowFar (Blk.rowFar ((bd.alloc (.cells z8 26)).alloc (.cells z8 26)) (show ga + 1 ≠ (W.heap.size + 1) by omega) #[.int .u16 q.y, .int .u16 q.m, .int .u16 q.v, .int .u16 q.d, .int .u16 q.h, .int .u16 q.i, .int .u16 q.s, .int .u16 q.u]) (show ga + 1 ≠ W.heap.size by omega) #[.int .u16 q.y, .int .u16 q.m, .int .u16 q.v, .int .u16 q.d, .int .u16 q.h, .int .u16 q.i, .int .u16 q.s, .int .u16 q.u]) Tryd.underlying26 rfl (by kernel_rfl) (by kernel_rfl))) (fun hHeld2 => ?_)
              clear hK K hHeld; have hHeld := hHeld2; clear hHeld2
              try simp only [Act.put, List.setIfInBounds_toArray, List.set_cons_zero, List.set_cons_succ]
              refine wpAnyH_done (by kernel_rfl) ?_ _
              clear hHeld
              go_wp2_with fail
              go_meet
              exact ⟨(W.heap.size + 1), W.heap.size, rfl, rfl, by omega, by omega, by omega, inv_of hT (below_row (below_row ((id0.2.alloc id0.2.size (.cells z8 26)).alloc (id0.2.alloc id0.2.size (.cells z8 26)).size (.cells z8 26)) (show w.heap.size ≤ (W.heap.size + 1) by omega) #[.int .u16 q.y, .int .u16 q.m, .int .u16 q.v, .int .u16 q.d, .int .u16 q.h, .int .u16 q.i, .int .u16 q.s, .int .u16 q.u]) (show w.heap.size ≤ W.heap.size by omega) #[.int .u16 q.y, .int .u16 q.m, .int .u16 q.v, .int .u16 q.d, .int .u16 q.h, .int .u16 q.i, .int .u16 q.s, .int .u16 q.u]), (Blk.rowFar (Blk.rowFar ((xd.alloc (.cells z8 26)).alloc (.cells z8 26)) (show w.heap.size ≠ (W.heap.size + 1) by omega) #[.int .u16 q.y, .int .u16 q.m, .int .u16 q.v, .int .u16 q.d, .int .u16 q.h, .int .u16 q.i, .int .u16 q.s, .int .u16 q.u]) (show w.heap.size ≠ W.heap.size by omega) #[.int .u16 q.y, .int .u16 q.m, .int .u16 q.v, .int .u16 q.d, .int .u16 q.h, .int .u16 q.i, .int .u16 q.s, .int .u16 q.u]), (Blk.rowFar (Blk.rowFar ((ad0.alloc (.cells z8 26)).alloc (.cells z8 26)) (show ga ≠ (W.heap.size + 1) by omega) #[.int .u16 q.y, .int .u16 q.m, .int .u16 q.v, .int .u16 q.d, .int .u16 q.h, .int .u16 q.i, .int .u16 q.s, .int .u16 q.u]) (show ga ≠ W.heap.size by omega) #[.int .u16 q.y, .int .u16 q.m, .int .u16 q.v, .int .u16 q.d, .int .u16 q.h, .int .u16 q.i, .int .u16 q.s, .int .u16 q.u]), (Blk.rowFar (Blk.rowFar ((bd.alloc (.cells z8 26)).alloc (.cells z8 26)) (show (ga + 1) ≠ (W.heap.size + 1) by omega) #[.int .u16 q.y, .int .u16 q.m, .int .u16 q.v, .int .u16 q.d, .int .u16 q.h, .int .u16 q.i, .int .u16 q.s, .int .u16 q.u]) (show (ga + 1) ≠ W.heap.size by omega) #[.int .u16 q.y, .int .u16 q.m, .int .u16 q.v, .int .u16 q.d, .int .u16 q.h, .int .u16 q.i, .int .u16 q.s, .int .u16 q.u]), (Blk.rowFar (Blk.row (blk_at (W.drew.alloc (.cells z8 26)) 26 z8 (sz1 _ _ rfl)) #[.int .u16 q.y, .int .u16 q.m, .int .u16 q.v, .int .u16 q.d, .int .u16 q.h, .int .u16 q.i, .int .u16 q.s, .int .u16 q.u]) (show (W.heap.size + 1) ≠ W.heap.size by omega) #[.int .u16 q.y, .int .u16 q.m, .int .u16 q.v, .int .u16 q.d, .int .u16 q.h, .int .u16 q.i, .int .u16 q.s, .int .u16 q.u]), (Blk.row (Blk.rowFar ((Blk.new W.drew 26 z8).alloc (.cells z8 26)) (show W.heap.size ≠ (W.heap.size + 1) by omega) #[.int .u16 q.y, .int .u16 q.m, .int .u16 q.v, .int .u16 q.d, .int .u16 q.h, .int .u16 q.i, .int .u16 q.s, .int .u16 q.u]) #[.int .u16 q.y, .int .u16 q.m, .int .u16 q.v, .int .u16 q.d, .int .u16 q.h, .int .u16 q.i, .int .u16 q.s, .int .u16 q.u])⟩
          case rest =>
            clear hi hx ha hb zga zgw
            obtain ⟨gu, gv, rfl, rfl, zuv, zu, zv, hi, hx, ha, hb, hu, hv⟩ := hcut
            go_upto_if 81 with fail
            go_cut [82] (fun _ wx => Inv w wx ∧ Blk wx w.heap.size 28 #[.int .i32 0, .int .i32 0, .int .i32 0, .int .u16 0, .int .u16 0, .int .u16 0, .int .u16 0, .int .u16 0, .int .u16 0, .int .u16 0, .int .u16 0, .int .u16 0, .int .u16 0, .int .u16 0, .int .u16 0, .int .u16 0, .int .u16 0, .int .u16 0, .int .u16 0] ∧ Blk wx ga 26 #[.int .u16 p.y, .int .u16 p.m, .int .u16 p.v, .int .u16 p.d, .int .u16 p.h, .int .u16 p.i, .int .u16 p.s, .int .u16 p.u] ∧ Blk wx (ga + 1) 26 #[.int .u16 q.y, .int .u16 q.m, .int .u16 q.v, .int .u16 q.d, .int .u16 q.h, .int .u16 q.i, .int .u16 q.s, .int .u16 q.u] ∧ Blk wx gu 26 #[.int .u16 (P 0).y, .int .u16 (P 0).m, .int .u16 (P 0).v, .int .u16 (P 0).d, .int .u16 (P 0).h, .int .u16 (P 0).i, .int .u16 (P 0).s, .int .u16 (P 0).u] ∧ Blk wx gv 26 #[.int .u16 q.y, .int .u16 q.m, .int .u16 q.v, .int .u16 q.d, .int .u16 q.h, .int .u16 q.i, .int .u16 q.s, .int .u16 q.u])
            case first =>
              by_cases hz : 0 < s1
              · have eQ := HP0.out
                rw [if_pos hz] at eQ
                have EQ := Lib.hid eQ; clear eQ
                go_wp2_with (first | refine wpList_row_g rfl 26 _ rfl _ rfl _ _ _ _ ha Tryd.underlying26 rfl (by kernel_rfl) ?_ | refine wpList_store_g rfl 26 _ _ rfl rfl _ 0 #[.int .u16 p.y, .int .u16 p.m, .int .u16 p.v, .int .u16 p.d, .int .u16 p.h, .int .u16 p.i, .int .u16 p.s, .int .u16 p.u] #[.int .u16 p.y, .int .u16 p.m, .int .u16 p.v, .int .u16 p.d, .int .u16 p.h, .int .u16 p.i, .int .u16 p.s, .int .u16 p.u] rfl rfl _ _ hu (by show 0 + 8 ≤ 8; decide) (by kernel_rfl) (by kernel_rfl) (by kernel_rfl) ?_)
                go_meet
                rw [EQ.out]
                exact ⟨inv_of hT (below_row hi.2 (show w.heap.size ≤ gu by omega) _), Blk.rowFar hx (show w.heap.size ≠ gu by omega) _, Blk.rowFar ha (show ga ≠ gu by omega) _, Blk.rowFar hb (show ga + 1 ≠ gu by omega) _, Blk.row hu _, Blk.rowFar hv (show gv ≠ gu by omega) _⟩
              · have eQ := HP0.out
                rw [if_neg hz] at eQ
                have EQ := Lib.hid eQ; clear eQ
                go_wp2_with fail
                go_meet
                rw [EQ.out]
                exact ⟨hi, hx, ha, hb, hu, hv⟩
            case rest =>
              clear hi hx ha hb hu hv
              obtain ⟨hi, hx, ha, hb, hu, hv⟩ := hcut
              go_upto_if 84 with fail
              go_cut [85] (fun _ wx => Inv w wx ∧ Blk wx w.heap.size 28 #[.int .i32 0, .int .i32 0, .int .i32 0, .int .u16 0, .int .u16 0, .int .u16 0, .int .u16 0, .int .u16 0, .int .u16 0, .int .u16 0, .int .u16 0, .int .u16 0, .int .u16 0, .int .u16 0, .int .u16 0, .int .u16 0, .int .u16 0, .int .u16 0, .int .u16 0] ∧ Blk wx ga 26 #[.int .u16 p.y, .int .u16 p.m, .int .u16 p.v, .int .u16 p.d, .int .u16 p.h, .int .u16 p.i, .int .u16 p.s, .int .u16 p.u] ∧ Blk wx (ga + 1) 26 #[.int .u16 q.y, .int .u16 q.m, .int .u16 q.v, .int .u16 q.d, .int .u16 q.h, .int .u16 q.i, .int .u16 q.s, .int .u16 q.u] ∧ Blk wx gu 26 #[.int .u16 (P 0).y, .int .u16 (P 0).m, .int .u16 (P 0).v, .int .u16 (P 0).d, .int .u16 (P 0).h, .int .u16 (P 0).i, .int .u16 (P 0).s, .int .u16 (P 0).u] ∧ Blk wx gv 26 #[.int .u16 (Q 0).y, .int .u16 (Q 0).m, .int .u16 (Q 0).v, .int .u16 (Q 0).d, .int .u16 (Q 0).h, .int .u16 (Q 0).i, .int .u16 (Q 0).s, .int .u16 (Q 0).u])
              case first =>
                by_cases hz : 0 ≤ s0
                · have eQ := HQ0.out
                  rw [if_pos hz] at eQ
                  have EQ := Lib.hid eQ; clear eQ
                  go_wp2_with (first | refine wpList_row_g rfl 26 _ rfl _ rfl _ _ _ _ ha Tryd.underlying26 rfl (by kernel_rfl) ?_ | refine wpList_store_g rfl 26 _ _ rfl rfl _ 0 #[.int .u16 p.y, .int .u16 p.m, .int .u16 p.v, .int .u16 p.d, .int .u16 p.h, .int .u16 p.i, .int .u16 p.s, .int .u16 p.u] #[.int .u16 p.y, .int .u16 p.m, .int .u16 p.v, .int .u16 p.d, .int .u16 p.h, .int .u16 p.i, .int .u16 p.s, .int .u16 p.u] rfl rfl _ _ hv (by show 0 + 8 ≤ 8; decide) (by kernel_rfl) (by kernel_rfl) (by kernel_rfl) ?_)
                  go_meet
                  rw [EQ.out]
                  exact ⟨inv_of hT (below_row hi.2 (show w.heap.size ≤ gv by omega) _), Blk.rowFar hx (show w.heap.size ≠ gv by omega) _, Blk.rowFar ha (show ga ≠ gv by omega) _, Blk.rowFar hb (show ga + 1 ≠ gv by omega) _, Blk.rowFar hu (show gu ≠ gv by omega) _, Blk.row hv _⟩
                · have eQ := HQ0.out
                  rw [if_neg hz] at eQ
                  have EQ := Lib.hid eQ; clear eQ
                  go_wp2_with fail
                  go_meet
                  rw [EQ.out]
                  exact ⟨hi, hx, ha, hb, hu, hv⟩
              case rest =>
                clear hi hx ha hb hu hv
                obtain ⟨hi, hx, ha, hb, hu, hv⟩ := hcut
                go_wp2_with fail
                go_loopw [19] (fun i wr => ∃ k : Nat, i = .int .i64 (k + 1) ∧ k + 1 ≤ n ∧ Inv w wr ∧ Blk wr w.heap.size 28 #[.int .i32 0, .int .i32 0, .int .i32 0, .int .u16 0, .int .u16 0, .int .u16 0, .int .u16 0, .int .u16 0, .int .u16 0, .int .u16 0, .int .u16 0, .int .u16 0, .int .u16 0, .int .u16 0, .int .u16 0, .int .u16 0, .int .u16 0, .int .u16 0, .int .u16 0] ∧ Blk wr ga 26 #[.int .u16 p.y, .int .u16 p.m, .int .u16 p.v, .int .u16 p.d, .int .u16 p.h, .int .u16 p.i, .int .u16 p.s, .int .u16 p.u] ∧ Blk wr (ga + 1) 26 #[.int .u16 q.y, .int .u16 q.m, .int .u16 q.v, .int .u16 q.d, .int .u16 q.h, .int .u16 q.i, .int .u16 q.s, .int .u16 q.u] ∧ Blk wr gu 26 #[.int .u16 (P k).y, .int .u16 (P k).m, .int .u16 (P k).v, .int .u16 (P k).d, .int .u16 (P k).h, .int .u16 (P k).i, .int .u16 (P k).s, .int .u16 (P k).u] ∧ Blk wr gv 26 #[.int .u16 (Q k).y, .int .u16 (Q k).m, .int .u16 (Q k).v, .int .u16 (Q k).d, .int .u16 (Q k).h, .int .u16 (Q k).i, .int .u16 (Q k).s, .int .u16 (Q k).u]) (fun i _ => n - (intOf i).toNat)
                case atStart => exact ⟨0, rfl, hn1, hi, hx, ha, hb, hu, hv⟩
                case round =>
                  clear hi hx ha hb hu hv hlt hlt' hk
                  obtain ⟨k, rfl, hk, hi, hx, ha, hb, hu, hv⟩ := hrel
                  by_cases hlt : k + 1 < n
                  · skip
                    have hlt' : (k : Int) + 1 < (n : Int) := by omega
                    obtain ⟨ad1, e1, r1⟩ := (hsA.out _ hi.2).row (k := k) (by omega)
                    obtain ⟨ad2, e2, r2⟩ := (hsA.out _ hi.2).row hlt
                    obtain rfl : ad = ad1 := Option.some.inj e1
                    obtain rfl : ad = ad2 := Option.some.inj e2
                    have hfb := HF.out (k + 1) hlt
                    have hob := HOF.out k (by omega)
                    have hcv := (show ccV l (k + 1) = (at_ l (k + 1)).f + (at_ l k).o from rfl)
                    obtain ⟨a, eA⟩ : ∃ a, at_ l k = a := ⟨_, rfl⟩
                    obtain ⟨b, eB⟩ : ∃ b, at_ l (k + 1) = b := ⟨_, rfl⟩
                    rw [eA] at r1 hob hcv; rw [eB] at r2 hfb hcv
                    have EB := Lib.hid eB
                    have HCV := Lib.hid hcv
                    clear eA eB hcv e1 e2
                    obtain ⟨q10, q11, q12, q13, q14⟩ := SpAt.of r1
                    obtain ⟨q20, q21, q22, q23, q24⟩ := SpAt.of r2
                    have hsub : IntKind.i64.wrap (k : Int) = (k : Int) := by simp [IntKind.wrap, IntKind.bits, IntKind.signed]; omega
                    have hsum : IntKind.i64.wrap (b.f + a.o) = b.f + a.o := by simp [IntKind.wrap, IntKind.bits, IntKind.signed]; omega
                    have i1 : (0 : Int) ≤ (k : Int) + 1 := by omega
                    have i2 : ((k : Int) + 1).toNat = k + 1 := by omega
                    have i3 : (0 : Int) ≤ (k : Int) := by omega
                    have i4 : (k : Int) < (n : Int) := by omega
                    go_wp2_with fail
                    go_quiet ((go_at_call 0))
                    clear q10 q11 q12 q13 q14 q20 q21 q22 q23 q24 hsub hsum
                    have hi2 : Inv w (wr.drewN nq) := inv_of hT (bdN hi.2 nq)
                    have hx2 := hx.drewN nq; have ha2 := ha.drewN nq; have hb2 := hb.drewN nq; have hu2 := hu.drewN nq; have hv2 := hv.drewN nq
                    have hw2 := r2.below (bdN (Below.refl w.heap.size wr) nq)
                    clear hi hx ha hb hu hv r1 r2
                    generalize wr.drewN nq = W2 at *
                    have hst := HST.out (b.f + a.o) (by omega) (by omega)
                    obtain ⟨sz, hsz⟩ : ∃ sz : St, Z (b.f + a.o) = sz := ⟨_, rfl⟩
                    rw [hsz] at hst
                    generalize E (b.f + a.o) = Ev at *
                    go_wp2_with fail
                    refine (hst _ hi2.1).mono ?_; rintro e w5 ⟨rfl, hb5⟩
                    have hi3 := (hi2.call hb5).alloc (.cells #[.int .u16 sz.y, .int .u16 sz.m, .int .u16 sz.v, .int .u16 sz.d, .int .u16 sz.h, .int .u16 sz.i, .int .u16 sz.s, .int .u16 sz.u] 26)
                    have hx3 := (hx2.below hb5 hx2.lt).alloc (.cells #[.int .u16 sz.y, .int .u16 sz.m, .int .u16 sz.v, .int .u16 sz.d, .int .u16 sz.h, .int .u16 sz.i, .int .u16 sz.s, .int .u16 sz.u] 26)
                    have ha3 := (ha2.below hb5 ha2.lt).alloc (.cells #[.int .u16 sz.y, .int .u16 sz.m, .int .u16 sz.v, .int .u16 sz.d, .int .u16 sz.h, .int .u16 sz.i, .int .u16 sz.s, .int .u16 sz.u] 26)
                    have hb3 := (hb2.below hb5 hb2.lt).alloc (.cells #[.int .u16 sz.y, .int .u16 sz.m, .int .u16 sz.v, .int .u16 sz.d, .int .u16 sz.h, .int .u16 sz.i, .int .u16 sz.s, .int .u16 sz.u] 26)
                    have hu3 := (hu2.below hb5 hu2.lt).alloc (.cells #[.int .u16 sz.y, .int .u16 sz.m, .int .u16 sz.v, .int .u16 sz.d, .int .u16 sz.h, .int .u16 sz.i, .int .u16 sz.s, .int .u16 sz.u] 26)
                    have hv3 := (hv2.below hb5 hv2.lt).alloc (.cells #[.int .u16 sz.y, .int .u16 sz.m, .int .u16 sz.v, .int .u16 sz.d, .int .u16 sz.h, .int .u16 sz.i, .int .u16 sz.s, .int .u16 sz.u] 26)
                    have hs3 := Blk.new w5 26 #[.int .u16 sz.y, .int .u16 sz.m, .int .u16 sz.v, .int .u16 sz.d, .int .u16 sz.h, .int .u16 sz.i, .int .u16 sz.s, .int .u16 sz.u]
                    have hw3 := (hw2.below (hb5.mono hi2.2.size)).below ((Below.refl w.heap.size w5).alloc (hi2.call hb5).2.size (.cells #[.int .u16 sz.y, .int .u16 sz.m, .int .u16 sz.v, .int .u16 sz.d, .int .u16 sz.h, .int .u16 sz.i, .int .u16 sz.s, .int .u16 sz.u] 26))
                    have zg : gv < w5.heap.size := (hv2.below hb5 hv2.lt).lt
                    have zg2 : gu < w5.heap.size := (hu2.below hb5 hu2.lt).lt
                    clear hi2 hx2 ha2 hb2 hu2 hv2 hw2 hb5 hst
                    go_upto_region 30 with (refine wpList_store_new rfl 26 _ _ rfl rfl w5.heap.size #[.int .u16 sz.y, .int .u16 sz.m, .int .u16 sz.v, .int .u16 sz.d, .int .u16 sz.h, .int .u16 sz.i, .int .u16 sz.s, .int .u16 sz.u] rfl rfl _ #[.int .u16 0, .int .u16 0, .int .u16 0, .int .u16 0, .int .u16 0, .int .u16 0, .int .u16 0, .int .u16 0] w5 rfl rfl rfl (by kernel_rfl) (by kernel_rfl) ?_)
                    generalize w5.alloc (.cells #[.int .u16 sz.y, .int .u16 sz.m, .int .u16 sz.v, .int .u16 sz.d, .int .u16 sz.h, .int .u16 sz.i, .int .u16 sz.s, .int .u16 sz.u] 26) = V5 at *
                    generalize w5.heap.size = gs at *
                    go_wp2_with fail
                    refine (hbg _).mono ?_; rintro e wq ⟨rfl, rfl⟩
                    by_cases hc : b.f + a.o = T
                    · have hne : (b.f + a.o == T) = true := by simp [hc]
                      have SK := Lib.hid (show S k = q by rw [HS.out k hlt, HCV.out, if_pos hc])
                      clear hc
                      go_upto_region 33 with (first | refine wpList_row_g rfl 26 _ rfl _ rfl _ _ _ _ hb3 Tryd.underlying26 rfl (by kernel_rfl) ?_ | refine wpList_store_g rfl 26 _ _ rfl rfl _ 0 #[.int .u16 q.y, .int .u16 q.m, .int .u16 q.v, .int .u16 q.d, .int .u16 q.h, .int .u16 q.i, .int .u16 q.s, .int .u16 q.u] #[.int .u16 q.y, .int .u16 q.m, .int .u16 q.v, .int .u16 q.d, .int .u16 q.h, .int .u16 q.i, .int .u16 q.s, .int .u16 q.u] rfl rfl _ _ hs3 (by show 0 + 8 ≤ 8; decide) (by kernel_rfl) (by kernel_rfl) (by kernel_rfl) ?_)
                      clear hne
                      have hi4 : Inv w (V5.setRow gs #[.int .u16 q.y, .int .u16 q.m, .int .u16 q.v, .int .u16 q.d, .int .u16 q.h, .int .u16 q.i, .int .u16 q.s, .int .u16 q.u]) := inv_of hT (below_row hi3.2 (by omega) _)
                      have hx4 := Blk.rowFar hx3 (show w.heap.size ≠ gs by omega) #[.int .u16 q.y, .int .u16 q.m, .int .u16 q.v, .int .u16 q.d, .int .u16 q.h, .int .u16 q.i, .int .u16 q.s, .int .u16 q.u]; have ha4 := Blk.rowFar ha3 (show ga ≠ gs by omega) #[.int .u16 q.y, .int .u16 q.m, .int .u16 q.v, .int .u16 q.d, .int .u16 q.h, .int .u16 q.i, .int .u16 q.s, .int .u16 q.u]; have hb4 := Blk.rowFar hb3 (show ga + 1 ≠ gs by omega) #[.int .u16 q.y, .int .u16 q.m, .int .u16 q.v, .int .u16 q.d, .int .u16 q.h, .int .u16 q.i, .int .u16 q.s, .int .u16 q.u]; have hu4 := Blk.rowFar hu3 (show gu ≠ gs by omega) #[.int .u16 q.y, .int .u16 q.m, .int .u16 q.v, .int .u16 q.d, .int .u16 q.h, .int .u16 q.i, .int .u16 q.s, .int .u16 q.u]; have hv4 := Blk.rowFar hv3 (show gv ≠ gs by omega) #[.int .u16 q.y, .int .u16 q.m, .int .u16 q.v, .int .u16 q.d, .int .u16 q.h, .int .u16 q.i, .int .u16 q.s, .int .u16 q.u]; have hs4 := Blk.row hs3 #[.int .u16 q.y, .int .u16 q.m, .int .u16 q.v, .int .u16 q.d, .int .u16 q.h, .int .u16 q.i, .int .u16 q.s, .int .u16 q.u]
                      have hrow := hw3.below (below_row (Below.refl w.heap.size V5) (show w.heap.size ≤ gs by omega) #[.int .u16 q.y, .int .u16 q.m, .int .u16 q.v, .int .u16 q.d, .int .u16 q.h, .int .u16 q.i, .int .u16 q.s, .int .u16 q.u])
                      clear hi3 hx3 ha3 hb3 hu3 hv3 hs3 hw3
                      generalize V5.setRow gs #[.int .u16 q.y, .int .u16 q.m, .int .u16 q.v, .int .u16 q.d, .int .u16 q.h, .int .u16 q.i, .int .u16 q.s, .int .u16 q.u] = V at *
                      obtain ⟨sk, hsk⟩ : ∃ sk : St, q = sk := ⟨_, rfl⟩
                      have SK := Lib.hid (show S k = sk by rw [SK.out, hsk])
                      have hs4 : Blk V gs 26 #[.int .u16 sk.y, .int .u16 sk.m, .int .u16 sk.v, .int .u16 sk.d, .int .u16 sk.h, .int .u16 sk.i, .int .u16 sk.s, .int .u16 sk.u] := by rw [← hsk]; exact hs4
                      clear hsk
                      obtain ⟨q20, q21, q22, q23, q24⟩ := SpAt.of hrow
                      cases hbd : b.d with
                      | false =>
                        have PK := Lib.hid (show P (k + 1) = sk by rw [HP.out k hlt, EB.out, hbd]; simp [SK.out])
                        have QK := Lib.hid (show Q (k + 1) = Q k by rw [HQ.out k hlt, EB.out, hbd]; simp [SK.out])
                        rw [hbd] at q22 q24
                        clear hbd EB
                        go_wp2_with (first | refine wpList_row_g rfl 26 _ rfl _ rfl _ _ _ _ hs4 Tryd.underlying26 rfl (by kernel_rfl) ?_ | refine wpList_store_g rfl 26 _ _ rfl rfl _ 0 #[.int .u16 sk.y, .int .u16 sk.m, .int .u16 sk.v, .int .u16 sk.d, .int .u16 sk.h, .int .u16 sk.i, .int .u16 sk.s, .int .u16 sk.u] #[.int .u16 sk.y, .int .u16 sk.m, .int .u16 sk.v, .int .u16 sk.d, .int .u16 sk.h, .int .u16 sk.i, .int .u16 sk.s, .int .u16 sk.u] rfl rfl _ _ hu4 (by show 0 + 8 ≤ 8; decide) (by kernel_rfl) (by kernel_rfl) (by kernel_rfl) ?_)
                        go_roundw
                        case rel =>
                          refine ⟨k + 1, ?_⟩
                          rw [PK.out, QK.out]
                          exact ⟨by go_num, by omega, inv_of hT (below_row hi4.2 (show w.heap.size ≤ gu by omega) _), Blk.rowFar hx4 (show w.heap.size ≠ gu by omega) _, Blk.rowFar ha4 (show ga ≠ gu by omega) _, Blk.rowFar hb4 (show ga + 1 ≠ gu by omega) _, Blk.row hu4 _, Blk.rowFar hv4 (show gv ≠ gu by omega) _⟩
                        case measure => simp [intOf]; omega
                      | true =>
                        have PK := Lib.hid (show P (k + 1) = P k by rw [HP.out k hlt, EB.out, hbd]; simp [SK.out])
                        have QK := Lib.hid (show Q (k + 1) = sk by rw [HQ.out k hlt, EB.out, hbd]; simp [SK.out])
                        rw [hbd] at q22 q24
                        clear hbd EB
                        go_wp2_with (first | refine wpList_row_g rfl 26 _ rfl _ rfl _ _ _ _ hs4 Tryd.underlying26 rfl (by kernel_rfl) ?_ | refine wpList_store_g rfl 26 _ _ rfl rfl _ 0 #[.int .u16 sk.y, .int .u16 sk.m, .int .u16 sk.v, .int .u16 sk.d, .int .u16 sk.h, .int .u16 sk.i, .int .u16 sk.s, .int .u16 sk.u] #[.int .u16 sk.y, .int .u16 sk.m, .int .u16 sk.v, .int .u16 sk.d, .int .u16 sk.h, .int .u16 sk.i, .int .u16 sk.s, .int .u16 sk.u] rfl rfl _ _ hv4 (by show 0 + 8 ≤ 8; decide) (by kernel_rfl) (by kernel_rfl) (by kernel_rfl) ?_)
                        go_roundw
                        case rel =>
                          refine ⟨k + 1, ?_⟩
                          rw [PK.out, QK.out]
                          exact ⟨by go_num, by omega, inv_of hT (below_row hi4.2 (show w.heap.size ≤ gv by omega) _), Blk.rowFar hx4 (show w.heap.size ≠ gv by omega) _, Blk.rowFar ha4 (show ga ≠ gv by omega) _, Blk.rowFar hb4 (show ga + 1 ≠ gv by omega) _, Blk.rowFar hu4 (show gu ≠ gv by omega) _, Blk.row hv4 _⟩
                        case measure => simp [intOf]; omega
                    · have hne : (b.f + a.o == T) = false := by simp [hc]
                      have SK := Lib.hid (show S k = sz by rw [HS.out k hlt, HCV.out, if_neg hc, hsz])
                      clear hc
                      go_upto_region 33 with fail
                      clear hne
                      obtain ⟨V, rfl⟩ : ∃ V : World, V = V5 := ⟨_, rfl⟩
                      obtain ⟨sk, rfl⟩ : ∃ sk : St, sk = sz := ⟨_, rfl⟩
                      have hi4 := hi3; have hx4 := hx3; have ha4 := ha3; have hb4 := hb3; have hu4 := hu3; have hv4 := hv3; have hs4 := hs3; have hrow := hw3
                      clear hi3 hx3 ha3 hb3 hu3 hv3 hs3 hw3
                      obtain ⟨q20, q21, q22, q23, q24⟩ := SpAt.of hrow
                      cases hbd : b.d with
                      | false =>
                        have PK := Lib.hid (show P (k + 1) = sk by rw [HP.out k hlt, EB.out, hbd]; simp [SK.out])
                        have QK := Lib.hid (show Q (k + 1) = Q k by rw [HQ.out k hlt, EB.out, hbd]; simp [SK.out])
                        rw [hbd] at q22 q24
                        clear hbd EB
                        go_wp2_with (first | refine wpList_row_g rfl 26 _ rfl _ rfl _ _ _ _ hs4 Tryd.underlying26 rfl (by kernel_rfl) ?_ | refine wpList_store_g rfl 26 _ _ rfl rfl _ 0 #[.int .u16 sk.y, .int .u16 sk.m, .int .u16 sk.v, .int .u16 sk.d, .int .u16 sk.h, .int .u16 sk.i, .int .u16 sk.s, .int .u16 sk.u] #[.int .u16 sk.y, .int .u16 sk.m, .int .u16 sk.v, .int .u16 sk.d, .int .u16 sk.h, .int .u16 sk.i, .int .u16 sk.s, .int .u16 sk.u] rfl rfl _ _ hu4 (by show 0 + 8 ≤ 8; decide) (by kernel_rfl) (by kernel_rfl) (by kernel_rfl) ?_)
                        go_roundw
                        case rel =>
                          refine ⟨k + 1, ?_⟩
                          rw [PK.out, QK.out]
                          exact ⟨by go_num, by omega, inv_of hT (below_row hi4.2 (show w.heap.size ≤ gu by omega) _), Blk.rowFar hx4 (show w.heap.size ≠ gu by omega) _, Blk.rowFar ha4 (show ga ≠ gu by omega) _, Blk.rowFar hb4 (show ga + 1 ≠ gu by omega) _, Blk.row hu4 _, Blk.rowFar hv4 (show gv ≠ gu by omega) _⟩
                        case measure => simp [intOf]; omega
                      | true =>
                        have PK := Lib.hid (show P (k + 1) = P k by rw [HP.out k hlt, EB.out, hbd]; simp [SK.out])
                        have QK := Lib.hid (show Q (k + 1) = sk by rw [HQ.out k hlt, EB.out, hbd]; simp [SK.out])
                        rw [hbd] at q22 q24
                        clear hbd EB
                        go_wp2_with (first | refine wpList_row_g rfl 26 _ rfl _ rfl _ _ _ _ hs4 Tryd.underlying26 rfl (by kernel_rfl) ?_ | refine wpList_store_g rfl 26 _ _ rfl rfl _ 0 #[.int .u16 sk.y, .int .u16 sk.m, .int .u16 sk.v, .int .u16 sk.d, .int .u16 sk.h, .int .u16 sk.i, .int .u16 sk.s, .int .u16 sk.u] #[.int .u16 sk.y, .int .u16 sk.m, .int .u16 sk.v, .int .u16 sk.d, .int .u16 sk.h, .int .u16 sk.i, .int .u16 sk.s, .int .u16 sk.u] rfl rfl _ _ hv4 (by show 0 + 8 ≤ 8; decide) (by kernel_rfl) (by kernel_rfl) (by kernel_rfl) ?_)
                        go_roundw
                        case rel =>
                          refine ⟨k + 1, ?_⟩
                          rw [PK.out, QK.out]
                          exact ⟨by go_num, by omega, inv_of hT (below_row hi4.2 (show w.heap.size ≤ gv by omega) _), Blk.rowFar hx4 (show w.heap.size ≠ gv by omega) _, Blk.rowFar ha4 (show ga ≠ gv by omega) _, Blk.rowFar hb4 (show ga + 1 ≠ gv by omega) _, Blk.rowFar hu4 (show gu ≠ gv by omega) _, Blk.row hv4 _⟩
                        case measure => simp [intOf]; omega
                  · have hlt' : ¬ (k : Int) + 1 < (n : Int) := by omega
                    have en : n - 1 = k := by omega
                    rw [en] at hmk
                    clear en
                    go_wp2_with (first | refine wpList_row_g rfl 26 _ rfl _ rfl _ _ _ _ hu Tryd.underlying26 rfl (by kernel_rfl) ?_ | refine wpList_row_g rfl 26 _ rfl _ rfl _ _ _ _ hv Tryd.underlying26 rfl (by kernel_rfl) ?_)
                    refine (hmk _ hi.1).mono ?_; rintro e wm ⟨rfl, hbm⟩
                    have him := (hi.call hbm).alloc (.cells mkA 28)
                    have hxm := (hx.below hbm hx.lt).alloc (.cells mkA 28)
                    have hym := Blk.new wm 28 mkA
                    clear hi hx ha hb hu hv hmk hbm
                    go_wp2_with (first | refine wpList_store_new rfl 28 _ _ rfl rfl wm.heap.size mkA rfl rfl _ #[.int .i32 0, .int .i32 0, .int .i32 0, .int .u16 0, .int .u16 0, .int .u16 0, .int .u16 0, .int .u16 0, .int .u16 0, .int .u16 0, .int .u16 0, .int .u16 0, .int .u16 0, .int .u16 0, .int .u16 0, .int .u16 0, .int .u16 0, .int .u16 0, .int .u16 0] wm rfl rfl (by rw [HMS.out]; rfl) (by rw [HMS.out]; kernel_rfl) HM1.out ?_ | refine wpList_row_g rfl 28 _ rfl _ rfl _ _ _ _ hym Tryd.underlying28 rfl (by rw [HMS.out]; kernel_rfl) ?_ | refine wpList_store_g rfl 28 _ _ rfl rfl _ 0 mkA mkA rfl rfl _ _ hxm (by show 0 + mkA.size ≤ 19; rw [HMS.out]; decide) (by rw [HMS.out]; kernel_rfl) HM1.out (by rw [HMS.out]; simp) ?_)
                    exact bodyPost_ret (res_ctt rfl _ _ _ _ mkA _ _ _ rfl rfl rfl (Blk.row hxm _) Tryd.underlying28 rfl (by rw [HMS.out]; kernel_rfl)) rfl ⟨rfl, below_row him.2 (Nat.le_refl _) _⟩
end Go.Proofs.YtginidedeefcdaaDoor.Ft
