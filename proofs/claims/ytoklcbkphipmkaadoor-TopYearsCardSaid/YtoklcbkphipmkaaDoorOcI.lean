/-
  AN ALMANAC IS MADE: occur.of, walked; occur.Year.
-/
import Derived.Test.YtoklcbkphipmkaaDoorOcH
namespace Go.Proofs.YtoklcbkphipmkaaDoor.Oc
open Go.ChangeShapes Go.WideShapes Go.ChangeAt Go.RowKit
open Go.Proofs.YtoklcbkphipmkaaDoor
open Go.Proofs.YtoklcbkphipmkaaDoor.Wd
open Go.Proofs.YtoklcbkphipmkaaDoor.Sr
open Go.Proofs.YtoklcbkphipmkaaDoor.Sl
open Go.Proofs.YtoklcbkphipmkaaDoor.Civ (Tab)
open Go.Proofs.YtoklcbkphipmkaaDoor.Mo (nomV nomE nominal_any)
open Go.Proofs.YtoklcbkphipmkaaDoor.Va (bal bcl RuOk ruE ruE_0 ruE_02 rule_any)
open Go.Proofs.YtoklcbkphipmkaaDoor.Mi (Imap)
set_option linter.unusedVariables false
set_option linter.unusedSimpArgs false
theorem info_i : (Tryd.prog.info? 3).map (fun i => (i.zero, i.size, i.bytes)) = some (some (.int .i64 0), 1, 8) := by kernel_rfl
theorem own_imap_ne {w : World} {P : Program} {base e size n k b m : Nat} {v : Value} {xs : List Value} {f : Int → Option Value} (h : w.ownsRow base e size v n xs) (x : Imap w P k b m f) : some b ≠ v.ownBlock := by
  rcases h.2 with ⟨rfl, _⟩ | ⟨g', cap, cur, rfl, hb, hh, _⟩
  · simp [Value.ownBlock]
  · intro he
    have : b = g' := by simpa [Value.ownBlock] using he
    subst this
    obtain ⟨D, ⟨es, clock, q, _⟩, _⟩ := x
    rw [q] at hh; cases hh
theorem imap_cells_ne {w : World} {P : Program} {k b n : Nat} {m : Int → Option Value} (h : Imap w P k b n m) {g : Nat} {t : TypeId} {cs : Array Value} (x : Blk w g t cs) : b ≠ g := by
  rintro rfl
  obtain ⟨D, ⟨es, clock, h1, _⟩, _⟩ := h
  unfold Blk at x
  rw [h1] at x; cases x
theorem plK_yes {rs : List Ru} {k : Nat} {r : Ru} (hr : ru_ rs k = r) (h : nomE 2000 r.mo r.kd r.dn r.dw r.sec r.ck = 0) : plK rs (k + 1) = plK rs k ++ [k] := by subst hr; rw [plK_succ, if_pos (show rE rs (k, 2000) = 0 from h)]
theorem plK_no {rs : List Ru} {k : Nat} {r : Ru} (hr : ru_ rs k = r) (h : ¬ nomE 2000 r.mo r.kd r.dn r.dw r.sec r.ck = 0) : plK rs (k + 1) = plK rs k := by subst hr; rw [plK_succ, if_neg (show ¬ rE rs (k, 2000) = 0 from h), List.append_nil]
/-- what of answers -/
def OfP (w : World) (n c : Nat) (A : Option Addr) (rs : List Ru) (e : Ending) (w' : World) : Prop :=
  Below w.heap.size w w' ∧ ((Ok rs ∧ ∃ (p mb pc : Nat) (PA : Option Addr), e = .returned (.tuple #[.pointer (some ⟨p, 0, none⟩), .bool true]) ∧ Alm w' (fun _ => False) w.heap.size p mb n c A PA (pls rs).length pc rs) ∨
    (¬ Ok rs ∧ e = .returned (.tuple #[.pointer none, .bool false])))
set_option maxRecDepth 100000 in
set_option maxHeartbeats 12800000 in
theorem of_any (A : Option Addr) (n c : Nat) (rs : List Ru) (w : World) (hS : Sls Ru.C 11 w w.heap.size A n rs) (hb : ∀ r ∈ rs, r.Bd) (hn : n ≤ 1000) (hT : Tab w) :
    Calls Tryd.prog 22 #[.slice A n c] w (OfP w n c A rs) := by
  obtain ⟨i0, hi0, hz0, hz1, hz2⟩ := info_parts info_i
  have HI := Lib.hid hi0; clear hi0
  have hmk := @run_makeMap Tryd.prog
  have m1 := Imap.made w Tryd.prog 3
  have b1 := bal (Below.refl _ w) (.map #[] 0)
  have hl := hS.len
  have hsz : (w.alloc (.map #[] 0)).heap.size = w.heap.size + 1 := sz1 w _ rfl
  have x2 := blk_at (w.alloc (.map #[] 0)) 78 #[.slice A n c, .slice none 0 0, .map (some w.heap.size)] hsz
  have m2 := m1.alloc (.cells #[.slice A n c, .slice none 0 0, .map (some w.heap.size)] 78)
  have b2 := bal b1 (.cells #[.slice A n c, .slice none 0 0, .map (some w.heap.size)] 78)
  have htb : 0 < w.heap.size := World.block_lt_of_cell? w _ (hT.2 0 (by decide))
  clear m1 b1
  go_enter Tryd.func22, Tryd.ntmps22
  go_upto_region 3 with fail
  generalize (w.alloc (.map #[] 0)).alloc (.cells #[.slice A n c, .slice none 0 0, .map (some w.heap.size)] 78) = W at *
  clear hmk hsz
  go_loopw [5, 6, 7, 8, 15] (fun _ _ _ _ i wr => ∃ (k : Nat) (v : Value), i = .int .i64 (k : Int) ∧ k ≤ n ∧ (∀ j, j < k → RuOk (ru_ rs j)) ∧ Blk wr (w.heap.size + 1) 78 #[.slice A n c, v, .map (some w.heap.size)] ∧ Imap wr Tryd.prog 3 w.heap.size 0 (fun _ => none) ∧
    wr.ownsRow w.heap.size 3 1 v (plK rs k).length (flat plC (plK rs k)) ∧ Below w.heap.size w wr) (fun _ _ _ _ i _ => n - (intOf i).toNat)
  case atStart => exact ⟨0, _, rfl, Nat.zero_le _, fun j hj => absurd hj (Nat.not_lt_zero _), x2, m2, ⟨rfl, .inl ⟨rfl, rfl⟩⟩, b2⟩
  case round =>
    clear x2 m2 b2
    obtain ⟨k, v, rfl, hk, hok, x, m, o, b⟩ := hrel
    have HOK := Lib.hid hok; clear hok
    have hpl := plK_len rs k
    by_cases hlt : k < n
    · have hltI : (k : Int) < (n : Int) := by omega
      obtain ⟨ad, eA, hrow⟩ := (hS.below b).row (fun _ => rfl) Ru.nil hlt
      subst eA
      have hkl : k < rs.length := by omega
      have hB := hb _ (getD_mem (L := rs) Ru.nil hkl)
      obtain ⟨r, hr⟩ : ∃ r, ru_ rs k = r := ⟨_, rfl⟩
      rw [show rs.getD k Ru.nil = r from hr] at hrow hB
      have HKY := Lib.hid (fun h => plK_yes hr h); have HKN := Lib.hid (fun h => plK_no hr h)
      have HR := Lib.hid hr; clear hr
      obtain ⟨N, hN⟩ : ∃ N, (plK rs k).length = N := ⟨_, rfl⟩
      obtain ⟨xs, hxs⟩ : ∃ xs, flat plC (plK rs k) = xs := ⟨_, rfl⟩
      rw [hN, hxs] at o
      rw [hN] at hpl
      have HN := Lib.hid hN; have HX := Lib.hid hxs; clear hN hxs
      have hb1 := bal (Below.refl _ wr) (.cells r.C 42); have y1 := Blk.new wr 42 r.C
      have x1 := x.below hb1 x.lt; have m1 := m.below hb1 m.lt; have o1 := own_below o hb1; have b1 := bcl b hb1
      clear x m o b hb1
      have hkd := hB.2.2.1.1
      go_upto_region 5 with (first | (refine wpList_at_g rfl 42 _ rfl _ _ r.C rfl _ hrow Tryd.underlying42 rfl (by kernel_rfl) ?_) | (refine wpList_store_new rfl 42 _ _ rfl rfl wr.heap.size r.C rfl rfl _ ruZ wr rfl rfl rfl (by kernel_rfl) (by kernel_rfl) ?_))
      clear hrow
      generalize wr.alloc (.cells r.C 42) = V at *
      obtain ⟨q, hq⟩ : ∃ q, wr.heap.size = q := ⟨_, rfl⟩
      simp only [hq] at y1 ⊢
      clear hq
      have hch := rule_any r V hB
      by_cases hro : RuOk r
      · rw [ruE_0.2 hro] at hch
        have HRO := Lib.hid hro; clear hro
        go_wp2_with (refine wpList_row_g rfl 42 _ rfl _ rfl _ _ _ _ y1 Tryd.underlying42 rfl (by kernel_rfl) ?_)
        refine hch.mono ?_; rintro e V2 ⟨rfl, hb2⟩
        have y2 := y1.below hb2 y1.lt; have x2 := x1.below hb2 x1.lt; have m2 := m1.below hb2 m1.lt; have o2 := own_below o1 hb2; have b2 := bcl b1 hb2
        clear y1 x1 m1 o1 b1 hb2 hch
        have T2 := hT.below (Nat.lt_of_lt_of_le hT.1 (Nat.le_refl _)) b2
        have hno := nominal_any 2000 r.mo r.kd r.dn r.dw r.sec r.ck V2 T2 hkd
        have c3 : V2.cell? ⟨q, 3, none⟩ = some (.int .i64 r.mo) := y2.cell 3
        obtain ⟨NE, hE⟩ : ∃ a, nomE 2000 r.mo r.kd r.dn r.dw r.sec r.ck = a := ⟨_, rfl⟩
        obtain ⟨NV, hV⟩ : ∃ a, nomV 2000 r.mo r.kd r.dn r.dw r.sec r.ck = a := ⟨_, rfl⟩
        rw [hE, hV] at hno
        rw [hE] at HKY HKN
        clear hV hE
        go_upto_region 8 with (first | (refine wpList_seg_g rfl 30 _ rfl q 4 #[.int .u8 r.kd, .int .i64 r.dn, .int .i64 r.dw] rfl _ _ _ _ y2 Tryd.underlying30 rfl (by kernel_rfl) (by rfl) ?_) | (refine wpList_seg_g rfl 33 _ rfl q 7 #[.int .i64 r.sec, .int .u8 r.ck] rfl _ _ _ _ y2 Tryd.underlying33 rfl (by kernel_rfl) (by rfl) ?_) | (go_at_call 13; refine hno.mono ?_; rintro e V3 ⟨rfl, hb3⟩))
        have x3 := x2.below hb3 x2.lt; have m3 := m2.below hb3 m2.lt; have o3 := own_below o2 hb3; have b3 := bcl b2 hb3
        clear y2 x2 m2 o2 b2 hb3 hno c3 T2
        have HOK2 := Lib.hid (show ∀ j, j < k + 1 → RuOk (ru_ rs j) from fun j hj => by
          by_cases q : j = k
          · rw [q, HR.out]; exact HRO.out
          · exact HOK.out j (by omega))
        by_cases h3 : NE = 0
        · have HK := Lib.hid (HKY.out h3); clear HKY HKN
          subst h3
          have c1 : V3.cell? ⟨w.heap.size + 1, 1, none⟩ = some v := x3.cell 1
          have hb4 := bal (Below.refl _ V3) (.cells #[.int .i64 (k : Int)] 3)
          have x4 := x3.below hb4 x3.lt; have m4 := m3.below hb4 m3.lt; have o4 := own_below o3 hb4; have b4 := bcl b3 hb4
          have hnew := Reads.of_own (w := V3.alloc (.cells #[.int .i64 (k : Int)] 3)) (base := 0) (e := 3) (size := 1) (A := some ⟨V3.heap.size, 0, none⟩) (n := 1) (c := 1) (xs := [.int .i64 (k : Int)]) ⟨rfl, .inr ⟨V3.heap.size, 1, #[.int .i64 (k : Int)], rfl, Nat.zero_le _, heap_alloc_new V3 _, Nat.le_refl _, by unfold maxLen; omega, rfl, rfl⟩⟩
          have B4 := Lib.hid b4.size
          have HX4 := Lib.hid x4; have HO4 := Lib.hid o4
          clear x3 m3 o3 b3 hb4
          go_wp2_with (at_builtin; refine wpList_append_any _ rfl _ _ 75 rfl w.heap.size 3 i0 _ 1 8 Tryd.underlying75 HI.out hz0 hz1 hz2 rfl (by decide) _ N _ rfl HO4.out _ _ 1 1 _ rfl hnew (by simp [Value.oneCell']) (by unfold maxLen; omega) (by omega) B4.out ?_; intro v1 w1 o5 g5 _; obtain ⟨A1, cc1, rfl⟩ := own_slice o5; have x5 := HX4.out.grown g5 (fun e => own_blk_ne HO4.out HX4.out (by decide) e.symm); have c4 : w1.cell? ⟨w.heap.size + 1, 1, none⟩ = some v := x5.cell 1; have f4 := x5.frozen 1; have HG := Lib.hid g5; clear g5)
          have m5 := m4.kept HG.out (own_imap_ne o4 m4)
          have b5 := b4.grown HG.out B4.out (fun g e => (own_ge o4 g e).1)
          have x6 := x5.set_ 1 (.slice A1 (N + 1) cc1)
          have m6 := m5.setCell (a := ⟨w.heap.size + 1, 1, none⟩) (imap_cells_ne m5 x5) (.slice A1 (N + 1) cc1)
          have b6 := b5.setCell (p := ⟨w.heap.size + 1, 1, none⟩) (Nat.le_succ _) (.slice A1 (N + 1) cc1)
          have o6 : (w1.setCell ⟨w.heap.size + 1, 1, none⟩ (.slice A1 (N + 1) cc1)).ownsRow w.heap.size 3 1 (.slice A1 (N + 1) cc1) (N + 1) (xs ++ [.int .i64 (k : Int)]) := own_of_heap o5 (fun g hg => Below.heap_setCell _ _ _ _ (fun e => own_blk_ne o5 x5 (by decide) (by rw [hg, e])))
          have HR6 := Lib.hid (show (w1.setCell ⟨w.heap.size + 1, 1, none⟩ (.slice A1 (N + 1) cc1)).ownsRow w.heap.size 3 1 (.slice A1 (N + 1) cc1) (plK rs (k + 1)).length (flat plC (plK rs (k + 1))) from by rw [HK.out, List.length_append, HN.out, flat_append, flat_one, HX.out]; exact o6)
          clear o6 o5 o4 m5 m4 b5 b4 x5 x4 hnew c4 f4 c1
          go_wp2_with fail
          go_roundw
          case rel => exact ⟨k + 1, _, by go_num, by omega, HOK2.out, x6, m6, HR6.out, b6⟩
          case measure => simp [intOf]; omega
        · have HK := Lib.hid (HKN.out h3); clear HKY HKN
          have h3b : (NE == 0) = false := by rw [beq_eq_false_iff_ne]; exact h3
          have HR6 := Lib.hid (show V3.ownsRow w.heap.size 3 1 v (plK rs (k + 1)).length (flat plC (plK rs (k + 1))) from by rw [HK.out, HN.out, HX.out]; exact o3)
          clear o3 h3
          go_wp2_with fail
          go_roundw
          case rel => exact ⟨k + 1, v, by go_num, by omega, HOK2.out, x3, m3, HR6.out, b3⟩
          case measure => simp [intOf]; omega
      · have hE2 : ruE r = 2 := by rcases ruE_02 r with q | q
                                   · exact absurd (ruE_0.1 q) hro
                                   · exact q
        rw [hE2] at hch
        have HNO := Lib.hid (show ¬ Ok rs from fun h => hro (by rw [← HR.out]; exact h.at_ hkl))
        clear hro hE2
        go_wp2_with (refine wpList_row_g rfl 42 _ rfl _ rfl _ _ _ _ y1 Tryd.underlying42 rfl (by kernel_rfl) ?_)
        refine hch.mono ?_; rintro e V2 ⟨rfl, hb2⟩
        have b2 := bcl b1 hb2
        clear y1 x1 m1 o1 b1 hb2 hch
        go_wp2_with fail
        go_ret2
        exact ⟨b2, .inr ⟨HNO.out, rfl⟩⟩
    · obtain rfl : k = n := by omega
      have hltI : ¬ (k : Int) < (k : Int) := by omega
      have hK : plK rs k = pls rs := by unfold plK pls; rw [hl]
      rw [hK] at o
      obtain ⟨PA, pc, rfl⟩ := own_slice o
      have hS2 := Sls.of_own (f := plC) (sz := 1) rfl o
      have hokk : Ok rs := fun r hr => by
        obtain ⟨j, hj, rfl⟩ := List.getElem_of_mem hr
        have := HOK.out j (by omega)
        unfold ru_ at this
        rwa [List.getD_eq_getElem?_getD, List.getElem?_eq_getElem hj] at this
      have HA := Lib.hid (show Alm wr (fun _ => False) w.heap.size (w.heap.size + 1) w.heap.size k c A PA (pls rs).length pc rs from
        ⟨x, hS.below b, hS2, ⟨_, [], m, List.nodup_nil, fun y hy => (by cases hy), fun y _ hy => (by cases hy), fun y v hv => (by cases hv)⟩, hT.below (Nat.lt_of_lt_of_le hT.1 (Nat.le_refl _)) b, ⟨Nat.le_refl _, Nat.le_succ _⟩, hb, hn, fun b hx => hx.elim, ⟨fun h => h, fun h => h⟩, fun _ _ _ h => h, htb⟩)
      clear x m o hS2 hK
      have HOKK := Lib.hid hokk; clear hokk
      go_wp2_with fail
      go_ret2
      exact ⟨b, .inl ⟨HOKK.out, _, _, _, _, rfl, HA.out⟩⟩
end Go.Proofs.YtoklcbkphipmkaaDoor.Oc
