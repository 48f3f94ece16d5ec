/-
  THE LAST EVENT THAT IS SOUGHT: almanac.last, for Last: walked.
-/
import Derived.Test.YtoklcbkphipmkaaDoorOcF
namespace Go.Proofs.YtoklcbkphipmkaaDoor.Oc
open Go.ChangeShapes Go.WideShapes Go.ChangeAt Go.RowKit
open Go.Proofs.YtoklcbkphipmkaaDoor
open Go.Proofs.YtoklcbkphipmkaaDoor.Wd
open Go.Proofs.YtoklcbkphipmkaaDoor.Sr
open Go.Proofs.YtoklcbkphipmkaaDoor.Sl
open Go.Proofs.YtoklcbkphipmkaaDoor.Va (bal bcl)
set_option linter.unusedVariables false
set_option linter.unusedSimpArgs false
def Ql (rs : List Ru) (z : Int) (e : Pe) : Prop := (decide (rT rs e < z)) = true
theorem downl (rs : List Ru) (z : Int) : Down rs (Ql rs z) := by
  intro a b hb hn
  have hb2 := of_decide_eq_true (show (decide (rT rs b < z)) = true from hb)
  show (decide (rT rs a < z)) = true
  refine decide_eq_true ?_
  unfold ltE at hn; omega
theorem monol {rs : List Ru} {y : Int} {L : List Pe} {n : Nat} (z : Int) (hL : IsY rs y L) (hn : L.length = n) : ∀ i j, i ≤ j → j < n → (decide (rT rs (L.getD j (0, 0)) < z)) = true → (decide (rT rs (L.getD i (0, 0)) < z)) = true := by
  intro i j hij hj hq
  by_cases q : i = j
  · subst q; exact hq
  · exact downl rs z _ _ hq (hL.st i j (by omega) (by omega))
set_option maxRecDepth 100000 in
set_option maxHeartbeats 12800000 in
theorem lal_any (X : Nat → Prop) (base p mb n c : Nat) (A PA : Option Addr) (pn pc : Nat) (rs : List Ru) (top : Int) (z : Int) (h : Nat) (w : World) (al : Alm w X base p mb n c A PA pn pc rs) (hok : Ok rs) (ht : 0 ≤ top ∧ top ≤ 10000) (u : Blk w h 2 #[.int .i64 z]) :
    Calls Tryd.prog 32 #[.pointer (some ⟨p, 0, none⟩), .int .i64 top, .func (.func 33) #[] #[.pointer (some ⟨h, 0, none⟩)]] w (LaP w X base p mb n c A PA pn pc rs top (Ql rs z)) := by
  have b0 := bal (bal (bal (Below.refl _ w) (.cells #[.func (.func 33) #[] #[.pointer (some ⟨h, 0, none⟩)]] 91)) (.cells evZ 80)) (.cells evZ 80)
  have y0 := ((Blk.new w 91 #[.func (.func 33) #[] #[.pointer (some ⟨h, 0, none⟩)]]).alloc (.cells evZ 80)).alloc (.cells evZ 80)
  have r0 := (blk_at (w.alloc (.cells #[.func (.func 33) #[] #[.pointer (some ⟨h, 0, none⟩)]] 91)) 80 evZ (sz1 w _ rfl)).alloc (.cells evZ 80)
  have e0 := blk_at ((w.alloc (.cells #[.func (.func 33) #[] #[.pointer (some ⟨h, 0, none⟩)]] 91)).alloc (.cells evZ 80)) 80 evZ (sz1 (w.alloc (.cells #[.func (.func 33) #[] #[.pointer (some ⟨h, 0, none⟩)]] 91)) (.cells evZ 80) (sz1 w _ rfl))
  obtain ⟨X', a0, hx0, hx1, hx2⟩ : ∃ X', Alm (((w.alloc (.cells #[.func (.func 33) #[] #[.pointer (some ⟨h, 0, none⟩)]] 91)).alloc (.cells evZ 80)).alloc (.cells evZ 80)) X' base p mb n c A PA pn pc rs ∧ (∀ b, X b → X' b) ∧ X' (w.heap.size + 1) ∧ X' (w.heap.size + 1 + 1) :=
    ⟨_, al.wide (Kp.of b0) (Y := fun b => w.heap.size ≤ b ∧ b ≤ w.heap.size + 1 + 1) (fun b q => ⟨q.1, Nat.lt_of_le_of_lt q.2 e0.lt⟩), fun b q => .inl q, .inr ⟨by omega, by omega⟩, .inr ⟨by omega, by omega⟩⟩
  have hh := u.lt
  have u0 := ((u.alloc (.cells #[.func (.func 33) #[] #[.pointer (some ⟨h, 0, none⟩)]] 91)).alloc (.cells evZ 80)).alloc (.cells evZ 80)
  have hge := al.bw
  have hmbw := al.mlt
  clear u
  go_enter Tryd.func32, Tryd.ntmps32
  go_upto_region 4 with fail
  have hW0 : w.heap.size + 1 + 1 < (((w.alloc (.cells #[.func (.func 33) #[] #[.pointer (some ⟨h, 0, none⟩)]] 91)).alloc (.cells evZ 80)).alloc (.cells evZ 80)).heap.size := e0.lt
  generalize ((w.alloc (.cells #[.func (.func 33) #[] #[.pointer (some ⟨h, 0, none⟩)]] 91)).alloc (.cells evZ 80)).alloc (.cells evZ 80) = W at *
  clear al
  have bt0 : But mb w.heap.size w W := But.of b0
  clear b0
  go_loopw [9, 10, 11, 12] (fun f y _ _ wr => ∃ (b : Option Pe) (yv : Int), f = .bool b.isSome ∧ y = .int .i64 yv ∧ 0 ≤ yv ∧ yv ≤ top ∧ LastJ rs top (Ql rs z) yv b ∧ Alm wr X' base p mb n c A PA pn pc rs ∧ Blk wr w.heap.size 91 #[.func (.func 33) #[] #[.pointer (some ⟨h, 0, none⟩)]] ∧ Blk wr (w.heap.size + 1) 80 evZ ∧ Blk wr (w.heap.size + 1 + 1) 80 (evO rs b) ∧ Blk wr h 2 #[.int .i64 z] ∧ But mb w.heap.size w wr) (fun _ y _ _ _ => (intOf y).toNat)
  case atStart => exact ⟨none, top, rfl, rfl, ht.1, Int.le_refl _, LastJ.start _ _ _, a0, y0, r0, e0, u0, bt0⟩
  case round =>
    clear a0 y0 r0 e0 u0 bt0 hW0
    obtain ⟨b, yv, rfl, rfl, hy0, hyt, hJ, al, y, r, e, u, bt⟩ := hrel
    have HJ := Lib.hid hJ; clear hJ
    by_cases h1 : 1 ≤ yv
    · cases b with
      | none =>
        go_wp2_with fail
        refine (year_any X' base p mb n c A PA pn pc rs yv _ al ⟨hy0, by omega⟩).mono ?_; rintro x W2 ⟨v, rfl, hv, al2, bt2⟩
        obtain ⟨A', n', c', L, rfl, hL, hS, hnc, _⟩ := hv
        have y2 := Blk.but y al.map bt2 y.lt; have r2 := Blk.but r al.map bt2 r.lt; have e2 := Blk.but e al.map bt2 e.lt; have u2 := Blk.but u al.map bt2 u.lt; have B2 := bt.andB bt2 (Nat.le_refl _)
        have hLn := hS.len
        have hn1 : n' ≤ 1000 := by have := hL.len; have := al.r.len; have := al.nm; omega
        clear bt2 y r e u bt al hnc
        have y3 := y2.alloc (.cells #[.slice A' n' c'] 73); have r3 := r2.alloc (.cells #[.slice A' n' c'] 73); have e3 := e2.alloc (.cells #[.slice A' n' c'] 73); have u3 := u2.alloc (.cells #[.slice A' n' c'] 73); have B3 := B2.alloc (Nat.le_refl _) (.cells #[.slice A' n' c'] 73); have al3 := al2.alloc (.cells #[.slice A' n' c'] 73); have x3 := Blk.new W2 73 #[.slice A' n' c']
        have hS3 : Sls (evC rs) 7 (W2.alloc (.cells #[.slice A' n' c'] 73)) (W2.alloc (.cells #[.slice A' n' c'] 73)).heap.size A' n' L := (hS.below (bal (Below.refl _ W2) (.cells #[.slice A' n' c'] 73))).more (bal (Below.refl _ W2) (.cells #[.slice A' n' c'] 73)).size
        clear y2 r2 e2 u2 B2 al2 hS
        go_upto_region 7 with fail
        generalize W2.alloc (.cells #[.slice A' n' c'] 73) = W3 at *
        obtain ⟨q, hq⟩ : ∃ q, W2.heap.size = q := ⟨_, rfl⟩
        simp only [hq] at x3 ⊢
        clear hq
        have c7 : W3.cell? ⟨q, 0, none⟩ = some (.slice A' n' c') := x3.cell 0
        have hL2 := Lib.hid hL; clear hL
        by_cases hn0 : n' = 0
        · subst hn0
          have hcb := cov_bd (rs := rs) (top := yv - 1) (by omega)
          have hcv := cov_any base p n c pn pc A PA rs (.map (some mb)) (yv - 1) W3 al3.f al3.r al3.bw al3.pl ⟨by omega, by omega⟩ al3.nm
          have HJ2 := Lib.hid (((HJ.out.none_here hL2.out (fun i hi => by omega)).skip hcb.2 (fun e he h1 h2 => by have := cov_ge (by omega) he h2; omega)))
          generalize covV rs (yv - 1) = cv at *
          go_wp2_with fail
          refine hcv.mono ?_; rintro x W4 ⟨rfl, hb4⟩
          have y4 := y3.below hb4 y3.lt; have r4 := r3.below hb4 r3.lt; have e4 := e3.below hb4 e3.lt; have u4 := u3.below hb4 u3.lt; have B4 := B3.and hb4 (Nat.le_refl _); have al4 := al3.below hb4
          clear hb4 y3 r3 e3 u3 B3 al3 x3 c7 hcv hS3
          go_wp2_with fail
          go_roundw
          case rel => exact ⟨none, cv, rfl, by go_num, by omega, by omega, HJ2.out, al4, y4, r4, e4, u4, B4⟩
          case measure => simp [intOf]; omega
        · have hn0I : ¬ (n' : Int) = 0 := by omega
          have hse := sel_any A' n' c' L rs z h w.heap.size q W3 hS3 hn1 x3 y3 u3 (monol z hL2.out hLn)
          go_wp2_with fail
          refine hse.mono ?_; rintro x W4 ⟨⟨k, rfl, hk, hk1, hk2⟩, hb4⟩
          have y4 := y3.below hb4 y3.lt; have r4 := r3.below hb4 r3.lt; have e4 := e3.below hb4 e3.lt; have u4 := u3.below hb4 u3.lt; have B4 := B3.and hb4 (Nat.le_refl _); have al4 := al3.below hb4; have x4 := x3.below hb4 x3.lt; have S4 : Sls (evC rs) 7 W4 W4.heap.size A' n' L := (hS3.below hb4).more hb4.size
          have HK1 := Lib.hid hk1; have HK2 := Lib.hid hk2
          clear hb4 y3 r3 e3 u3 B3 al3 x3 c7 hse hS3 hk1 hk2
          have c8 : W4.cell? ⟨q, 0, none⟩ = some (.slice A' n' c') := x4.cell 0
          go_upto_region 10 with fail
          by_cases hk0 : k = 0
          · subst hk0
            have HJ2 := Lib.hid (HJ.out.none_here hL2.out (fun i hi hq => by have h3 := HK2.out i (Nat.zero_le _) (by omega); rw [show _ = true from hq] at h3; cases h3))
            go_wp2_with fail
            go_quiet (fail)
            go_wp2_with fail
            go_roundw
            case rel => exact ⟨none, yv - 1, rfl, by go_num, by omega, by omega, HJ2.out, al4.drewN _, y4, r4, e4, u4, B4.drewN _⟩
            case measure => simp [intOf]; omega
          · obtain ⟨j, rfl⟩ : ∃ j, k = j + 1 := ⟨k - 1, by omega⟩
            have hjn : j < n' := by omega
            have hjI : (j : Int) < (n' : Int) := by omega
            have hj1 : ((j + 1 : Nat) : Int) = (j : Int) + 1 := by omega
            rw [hj1]
            have hj0 : (0 : Int) < (j : Int) + 1 := by omega
            have hj2 : (j : Int) + 1 - 1 = (j : Int) := by omega
            have hj3 : IntKind.i64.wrap (j : Int) = (j : Int) := by simp [IntKind.wrap, IntKind.bits, IntKind.signed]; omega
            have hj4 : (0 : Int) ≤ (j : Int) := by omega
            have HN := Lib.hid (show ∀ i, j + 1 ≤ i → i < L.length → ¬ Ql rs z (L.getD i (0, 0)) from fun i h1 h2 hq => by have h3 := HK2.out i h1 (by omega); rw [show (decide (rT rs (L.getD i (0, 0)) < z)) = true from hq] at h3; cases h3)
            have HQ := Lib.hid (show Ql rs z (L.getD (j + 1 - 1) (0, 0)) from HK1.out j (Nat.lt_succ_self _))
            obtain ⟨ad, eA, hrow⟩ := S4.row (fun _ => rfl) (0, 0) hjn
            subst eA
            obtain ⟨o, ho⟩ : ∃ o, L.getD j (0, 0) = o := ⟨_, rfl⟩
            rw [ho] at hrow
            have HO := Lib.hid ho; clear ho
            have HJ2 := Lib.hid (HJ.out.first hyt hL2.out (Nat.succ_pos j) (by omega) HQ.out HN.out); clear HJ
            go_wp2_with fail
            go_quiet (fail)
            have e5 := Blk.drewN e4; have hrow5 := fun N => (show Row (W4.drewN N) W4.heap.size _ _ from hrow)
            go_wp2_with (first | (refine wpList_at_g rfl 80 _ rfl W4.heap.size _ (evC rs o) rfl _ (hrow5 _) Tryd.underlying80 rfl (by kernel_rfl) ?_) | (refine wpList_store_g rfl 80 _ _ rfl rfl (w.heap.size + 1 + 1) 0 (evC rs o) (evC rs o) rfl rfl _ _ (e5 _) (by show 0 + 7 ≤ 7; decide) (by kernel_rfl) (ev_one rs _) rfl ?_))
            go_roundw
            case rel => exact ⟨some (L.getD (j + 1 - 1) (0, 0)), yv - 1, rfl, by go_num, by omega, by omega, HJ2.out, (al4.drewN _).kp (Kp.row hx2 _), (y4.drewN _).rowFar (by omega) _, (r4.drewN _).rowFar (by omega) _, by rw [show L.getD (j + 1 - 1) (0, 0) = o from HO.out]; exact Blk.row (e4.drewN _) _, (u4.drewN _).rowFar (by omega) _, but_row (B4.drewN _) (by omega) _⟩
            case measure => simp [intOf]; omega
      | some bb =>
        have c6 : wr.cell? ⟨w.heap.size + 1 + 1, 6, none⟩ = some (.int .i64 bb.2) := e.cell 6
        by_cases h2 : bb.2 - 1 ≤ yv
        · have hby := occ_year hok (show Occ rs bb from HJ.out.1)
          go_wp2_with fail
          refine (year_any X' base p mb n c A PA pn pc rs yv _ al ⟨hy0, by omega⟩).mono ?_; rintro x W2 ⟨v, rfl, hv, al2, bt2⟩
          obtain ⟨A', n', c', L, rfl, hL, hS, hnc, _⟩ := hv
          have y2 := Blk.but y al.map bt2 y.lt; have r2 := Blk.but r al.map bt2 r.lt; have e2 := Blk.but e al.map bt2 e.lt; have u2 := Blk.but u al.map bt2 u.lt; have B2 := bt.andB bt2 (Nat.le_refl _)
          have hLn := hS.len
          have hn1 : n' ≤ 1000 := by have := hL.len; have := al.r.len; have := al.nm; omega
          clear bt2 y r e u bt al hnc
          clear c6
          have y3 := y2.alloc (.cells #[.slice A' n' c'] 73); have r3 := r2.alloc (.cells #[.slice A' n' c'] 73); have e3 := e2.alloc (.cells #[.slice A' n' c'] 73); have u3 := u2.alloc (.cells #[.slice A' n' c'] 73); have B3 := B2.alloc (Nat.le_refl _) (.cells #[.slice A' n' c'] 73); have al3 := al2.alloc (.cells #[.slice A' n' c'] 73); have x3 := Blk.new W2 73 #[.slice A' n' c']
          have hS3 : Sls (evC rs) 7 (W2.alloc (.cells #[.slice A' n' c'] 73)) (W2.alloc (.cells #[.slice A' n' c'] 73)).heap.size A' n' L := (hS.below (bal (Below.refl _ W2) (.cells #[.slice A' n' c'] 73))).more (bal (Below.refl _ W2) (.cells #[.slice A' n' c'] 73)).size
          clear y2 r2 e2 u2 B2 al2 hS
          go_upto_region 7 with fail
          generalize W2.alloc (.cells #[.slice A' n' c'] 73) = W3 at *
          obtain ⟨q, hq⟩ : ∃ q, W2.heap.size = q := ⟨_, rfl⟩
          simp only [hq] at x3 ⊢
          clear hq
          have c7 : W3.cell? ⟨q, 0, none⟩ = some (.slice A' n' c') := x3.cell 0
          have hL2 := Lib.hid hL; clear hL
          by_cases hn0 : n' = 0
          · subst hn0
            have hcb := cov_bd (rs := rs) (top := yv - 1) (by omega)
            have hcv := cov_any base p n c pn pc A PA rs (.map (some mb)) (yv - 1) W3 al3.f al3.r al3.bw al3.pl ⟨by omega, by omega⟩ al3.nm
            have HJ2 := Lib.hid (((HJ.out.none_here hL2.out (fun i hi => by omega)).skip hcb.2 (fun e he h1 h2 => by have := cov_ge (by omega) he h2; omega)))
            generalize covV rs (yv - 1) = cv at *
            go_wp2_with fail
            refine hcv.mono ?_; rintro x W4 ⟨rfl, hb4⟩
            have y4 := y3.below hb4 y3.lt; have r4 := r3.below hb4 r3.lt; have e4 := e3.below hb4 e3.lt; have u4 := u3.below hb4 u3.lt; have B4 := B3.and hb4 (Nat.le_refl _); have al4 := al3.below hb4
            clear hb4 y3 r3 e3 u3 B3 al3 x3 c7 hcv hS3
            go_wp2_with fail
            go_roundw
            case rel => exact ⟨(some bb), cv, rfl, by go_num, by omega, by omega, HJ2.out, al4, y4, r4, e4, u4, B4⟩
            case measure => simp [intOf]; omega
          · have hn0I : ¬ (n' : Int) = 0 := by omega
            have hse := sel_any A' n' c' L rs z h w.heap.size q W3 hS3 hn1 x3 y3 u3 (monol z hL2.out hLn)
            go_wp2_with fail
            refine hse.mono ?_; rintro x W4 ⟨⟨k, rfl, hk, hk1, hk2⟩, hb4⟩
            have y4 := y3.below hb4 y3.lt; have r4 := r3.below hb4 r3.lt; have e4 := e3.below hb4 e3.lt; have u4 := u3.below hb4 u3.lt; have B4 := B3.and hb4 (Nat.le_refl _); have al4 := al3.below hb4; have x4 := x3.below hb4 x3.lt; have S4 : Sls (evC rs) 7 W4 W4.heap.size A' n' L := (hS3.below hb4).more hb4.size
            have HK1 := Lib.hid hk1; have HK2 := Lib.hid hk2
            clear hb4 y3 r3 e3 u3 B3 al3 x3 c7 hse hS3 hk1 hk2
            have c8 : W4.cell? ⟨q, 0, none⟩ = some (.slice A' n' c') := x4.cell 0
            go_upto_region 10 with fail
            by_cases hk0 : k = 0
            · subst hk0
              have HJ2 := Lib.hid (HJ.out.none_here hL2.out (fun i hi hq => by have h3 := HK2.out i (Nat.zero_le _) (by omega); rw [show _ = true from hq] at h3; cases h3))
              go_wp2_with fail
              go_quiet (fail)
              go_wp2_with fail
              go_roundw
              case rel => exact ⟨(some bb), yv - 1, rfl, by go_num, by omega, by omega, HJ2.out, al4.drewN _, y4, r4, e4, u4, B4.drewN _⟩
              case measure => simp [intOf]; omega
            · obtain ⟨j, rfl⟩ : ∃ j, k = j + 1 := ⟨k - 1, by omega⟩
              have hjn : j < n' := by omega
              have hjI : (j : Int) < (n' : Int) := by omega
              have hj1 : ((j + 1 : Nat) : Int) = (j : Int) + 1 := by omega
              rw [hj1]
              have hj0 : (0 : Int) < (j : Int) + 1 := by omega
              have hj2 : (j : Int) + 1 - 1 = (j : Int) := by omega
              have hj3 : IntKind.i64.wrap (j : Int) = (j : Int) := by simp [IntKind.wrap, IntKind.bits, IntKind.signed]; omega
              have hj4 : (0 : Int) ≤ (j : Int) := by omega
              have HN := Lib.hid (show ∀ i, j + 1 ≤ i → i < L.length → ¬ Ql rs z (L.getD i (0, 0)) from fun i h1 h2 hq => by have h3 := HK2.out i h1 (by omega); rw [show (decide (rT rs (L.getD i (0, 0)) < z)) = true from hq] at h3; cases h3)
              have HQ := Lib.hid (show Ql rs z (L.getD (j + 1 - 1) (0, 0)) from HK1.out j (Nat.lt_succ_self _))
              obtain ⟨ad, eA, hrow⟩ := S4.row (fun _ => rfl) (0, 0) hjn
              subst eA
              obtain ⟨o, ho⟩ : ∃ o, L.getD j (0, 0) = o := ⟨_, rfl⟩
              rw [ho] at hrow
              have HO := Lib.hid ho; clear ho
              have hoc := order_b rs bb o W4.drew
              have HOL := Lib.hid (ordV_lt rs bb o)
              generalize ordV rs bb o = ov at *
              go_wp2_with fail
              go_still_tail 12, (by kernel_rfl)
              refine still_at rfl 80 _ rfl _ _ (evC rs bb) rfl _ (row_blk e4) Tryd.underlying80 rfl (by kernel_rfl) ?_
              repeat still_step
              refine still_at rfl 80 _ rfl _ _ (evC rs o) rfl _ hrow Tryd.underlying80 rfl (by kernel_rfl) ?_
              refine wpStill_nil ?_
              change wpList _ _ _ _ _ W4.drew
              by_cases hov : ov < 0
              · have HJ2 := Lib.hid (HJ.out.more hyt hL2.out (Nat.succ_pos j) (by omega) HQ.out HN.out (by rw [show L.getD (j + 1 - 1) (0, 0) = o from HO.out]; exact HOL.out.1 hov))
                clear HJ HOL
                go_wp2_with fail
                refine hoc.mono ?_; rintro x W5 ⟨rfl, hb5⟩
                have hb6 : Below W4.heap.size W4 W5 := (Below.refl _ W4).drew.trans hb5
                have y5 := y4.below hb6 y4.lt; have r5 := r4.below hb6 r4.lt; have e5 := e4.below hb6 e4.lt; have u5 := u4.below hb6 u4.lt; have B5 := B4.and hb6 (Nat.le_refl _); have al5 := al4.below hb6; have x5 := x4.below hb6 x4.lt; have hrow5 := hrow.below hb6
                clear hb5 hb6 y4 r4 e4 u4 B4 al4 x4 hrow c8 hoc S4
                have c9 : W5.cell? ⟨q, 0, none⟩ = some (.slice (some ad) n' c') := x5.cell 0
                go_wp2_with (first | (refine wpList_at_g rfl 80 _ rfl _ _ (evC rs o) rfl _ hrow5 Tryd.underlying80 rfl (by kernel_rfl) ?_) | (refine wpList_store_g rfl 80 _ _ rfl rfl (w.heap.size + 1 + 1) 0 (evC rs o) (evC rs o) rfl rfl _ _ e5 (by show 0 + 7 ≤ 7; decide) (by kernel_rfl) (ev_one rs _) rfl ?_))
                go_roundw
                case rel => exact ⟨some (L.getD (j + 1 - 1) (0, 0)), yv - 1, rfl, by go_num, by omega, by omega, HJ2.out, al5.kp (Kp.row hx2 _), y5.rowFar (by omega) _, r5.rowFar (by omega) _, by rw [show L.getD (j + 1 - 1) (0, 0) = o from HO.out]; exact Blk.row e5 _, u5.rowFar (by omega) _, but_row B5 (by omega) _⟩
                case measure => simp [intOf]; omega
              · have HJ2 := Lib.hid (HJ.out.less hL2.out (Nat.succ_pos j) (by omega) HN.out (by rw [show L.getD (j + 1 - 1) (0, 0) = o from HO.out]; exact fun q => hov (HOL.out.2 q)))
                clear HJ HOL
                go_wp2_with fail
                refine hoc.mono ?_; rintro x W5 ⟨rfl, hb5⟩
                have hb6 : Below W4.heap.size W4 W5 := (Below.refl _ W4).drew.trans hb5
                have y5 := y4.below hb6 y4.lt; have r5 := r4.below hb6 r4.lt; have e5 := e4.below hb6 e4.lt; have u5 := u4.below hb6 u4.lt; have B5 := B4.and hb6 (Nat.le_refl _); have al5 := al4.below hb6; have x5 := x4.below hb6 x4.lt; have hrow5 := hrow.below hb6
                clear hb5 hb6 y4 r4 e4 u4 B4 al4 x4 hrow c8 hoc S4
                have c9 : W5.cell? ⟨q, 0, none⟩ = some (.slice (some ad) n' c') := x5.cell 0
                go_wp2_with fail
                go_roundw
                case rel => exact ⟨some bb, yv - 1, rfl, by go_num, by omega, by omega, HJ2.out, al5, y5, r5, e5, u5, B5⟩
                case measure => simp [intOf]; omega
        · have hby := occ_year hok (show Occ rs bb from HJ.out.1)
          have HP := Lib.hid (HJ.out.done (by omega))
          go_wp2_with (first | (refine wpList_row_g rfl 80 _ rfl _ rfl _ _ _ _ e Tryd.underlying80 rfl (by kernel_rfl) ?_) | (refine wpList_store_g rfl 80 _ _ rfl rfl (w.heap.size + 1) 0 (evC rs bb) (evC rs bb) rfl rfl _ _ r (by show 0 + 7 ≤ 7; decide) (by kernel_rfl) (ev_one rs _) rfl ?_))
          exact bodyPost_ret (res_ct (p := 6) (q := 7) rfl _ _ (w.heap.size + 1) _ (evC rs bb) (.bool true) _ rfl rfl (Blk.row r _) Tryd.underlying80 rfl (by kernel_rfl)) rfl ⟨(some bb), rfl, HP.out, (al.kp (Kp.row hx1 _)).less hx0, but_row bt (Nat.le_succ _) _⟩
    · have HP := Lib.hid (HJ.out.done0 hok (by omega))
      cases b with
      | none =>
        go_wp2_with (first | (refine wpList_row_g rfl 80 _ rfl _ rfl _ _ _ _ e Tryd.underlying80 rfl (by kernel_rfl) ?_) | (refine wpList_store_g rfl 80 _ _ rfl rfl (w.heap.size + 1) 0 evZ evZ rfl rfl _ _ r (by show 0 + 7 ≤ 7; decide) (by kernel_rfl) (by kernel_rfl) rfl ?_))
        exact bodyPost_ret (res_ct (p := 6) (q := 7) rfl _ _ (w.heap.size + 1) _ evZ (.bool false) _ rfl rfl (Blk.row r _) Tryd.underlying80 rfl (by kernel_rfl)) rfl ⟨none, rfl, HP.out, (al.kp (Kp.row hx1 _)).less hx0, but_row bt (Nat.le_succ _) _⟩
      | some bb =>
        go_wp2_with (first | (refine wpList_row_g rfl 80 _ rfl _ rfl _ _ _ _ e Tryd.underlying80 rfl (by kernel_rfl) ?_) | (refine wpList_store_g rfl 80 _ _ rfl rfl (w.heap.size + 1) 0 (evC rs bb) (evC rs bb) rfl rfl _ _ r (by show 0 + 7 ≤ 7; decide) (by kernel_rfl) (ev_one rs _) rfl ?_))
        exact bodyPost_ret (res_ct (p := 6) (q := 7) rfl _ _ (w.heap.size + 1) _ (evC rs bb) (.bool true) _ rfl rfl (Blk.row r _) Tryd.underlying80 rfl (by kernel_rfl)) rfl ⟨(some bb), rfl, HP.out, (al.kp (Kp.row hx1 _)).less hx0, but_row bt (Nat.le_succ _) _⟩
end Go.Proofs.YtoklcbkphipmkaaDoor.Oc
