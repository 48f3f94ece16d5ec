/-
  TABLES: what the reference's spans are: the program's.
-/
import Derived.Test.YtefcjccapekjdaaDoorTdS
import Derived.Test.YtefcjccapekjdaaDoorTcS
import Derived.Test.YtefcjccapekjdaaDoorTcE
namespace Go.Proofs.YtefcjccapekjdaaDoor.Ft
open Go.ChangeShapes Go.WideShapes Go.ChangeAt Go.RowKit
open Go.Proofs.YtefcjccapekjdaaDoor
open Go.Proofs.YtefcjccapekjdaaDoor.Wd
open Go.Proofs.YtefcjccapekjdaaDoor.Rec
open Go.Proofs.YtefcjccapekjdaaDoor.Yr
open Go.Proofs.YtefcjccapekjdaaDoor.Clk (yrV yrE)
open Go.Proofs.YtefcjccapekjdaaDoor.Civ (Tab Inv)
set_option linter.unusedVariables false
open Go.Proofs.YtefcjccapekjdaaDoor.Tb
theorem tidy1 (x : Sp) : tidyL [x] = [x] := by unfold tidyL; simp [tdK]
theorem tidy2 (x y : Sp) : tidyL [x, y] = if alk y x = true then [x] else [x, y] := by
  unfold tidyL
  cases h : alk y x <;> simp [tdK, h]
theorem tidy3 (x y z : Sp) : tidyL [x, y, z] = (if alk y x = true then [x] else [x, y]) ++ (if alk z y = true then [] else [z]) := by
  unfold tidyL
  cases h : alk y x <;> cases h2 : alk z y <;> simp [tdK, h, h2]
theorem alk_sp (r : Rc) (Y t t' : Int) : alk (r.sp Y t) (r.sp Y t') = eqT (r.off Y t) (r.sum Y t) (r.off Y t') (r.sum Y t') := rfl
theorem eqT_iff {o o' : Int} {k k' : Bool} : eqT o k o' k' = true ↔ o = o' ∧ k = k' := by unfold eqT; simp
theorem tidy_sp (r : Rc) (Y : Int) (hB : begY Y < begY (Y + 1)) : tidyL (cK r Y 3) = spL r Y := by
  have hc1 : cK r Y 1 = [r.sp Y (begY Y)] := by
    show cS r Y (begY Y) (begY (Y + 1)) [] (begY Y) = _
    unfold cS; rw [if_neg (by simp; omega)]; rfl
  have hab : min (r.tr Y) (r.ts Y) ≤ max (r.tr Y) (r.ts Y) := by omega
  have hs0 : sp0 r Y = ([r.sp Y (begY Y)], r.off Y (begY Y), r.sum Y (begY Y)) := rfl
  have hc2 : cK r Y 2 = cS r Y (begY Y) (begY (Y + 1)) (cK r Y 1) (min (r.tr Y) (r.ts Y)) := rfl
  have hc3 : cK r Y 3 = cS r Y (begY Y) (begY (Y + 1)) (cK r Y 2) (max (r.tr Y) (r.ts Y)) := rfl
  have hs1 : sp1 r Y = spStep r Y (sp0 r Y) (min (r.tr Y) (r.ts Y)) := rfl
  have hs2 : sp2 r Y = spStep r Y (sp1 r Y) (max (r.tr Y) (r.ts Y)) := rfl
  show _ = (sp2 r Y).1
  rw [hc3, hs2]
  rw [hc1] at hc2
  rw [hs0] at hs1
  generalize hga : min (r.tr Y) (r.ts Y) = a at *
  generalize hgb : max (r.tr Y) (r.ts Y) = b at *
  by_cases ha : a ≤ begY Y ∨ begY (Y + 1) ≤ a
  · rw [Tb.step_skip ha] at hs1
    have e2 : cK r Y 2 = [r.sp Y (begY Y)] := by
      rw [hc2]; unfold cS; rw [if_pos]
      rcases ha with q | q
      · by_cases e : a = begY Y
        · exact .inr (.inr ⟨by simp, e⟩)
        · exact .inl (by omega)
      · exact .inr (.inl q)
    rw [e2, hs1]
    by_cases hb : b ≤ begY Y ∨ begY (Y + 1) ≤ b
    · rw [Tb.step_skip hb]
      have e3 : cS r Y (begY Y) (begY (Y + 1)) [r.sp Y (begY Y)] b = [r.sp Y (begY Y)] := by
        unfold cS; rw [if_pos]
        rcases hb with q | q
        · by_cases e : b = begY Y
          · exact .inr (.inr ⟨by simp, e⟩)
          · exact .inl (by omega)
        · exact .inr (.inl q)
      rw [e3, tidy1]
    · have e3 : cS r Y (begY Y) (begY (Y + 1)) [r.sp Y (begY Y)] b = [r.sp Y (begY Y), r.sp Y b] := by
        unfold cS; rw [if_neg]; · rfl
        rintro (q | q | ⟨_, q⟩)
        · omega
        · omega
        · have q' : b = begY Y := q
          omega
      rw [e3, tidy2, alk_sp]
      cases he : eqT (r.off Y b) (r.sum Y b) (r.off Y (begY Y)) (r.sum Y (begY Y)) with
      | true => rw [Tb.step_same hb he]; rfl
      | false => rw [Tb.step_new hb he]; rfl
  · have e2 : cK r Y 2 = [r.sp Y (begY Y), r.sp Y a] := by
      rw [hc2]; unfold cS; rw [if_neg]; · rfl
      rintro (q | q | ⟨_, q⟩)
      · omega
      · omega
      · have q' : a = begY Y := q
        omega
    rw [e2]
    by_cases hb : b ≤ a ∨ begY (Y + 1) ≤ b
    · have e3 : cS r Y (begY Y) (begY (Y + 1)) [r.sp Y (begY Y), r.sp Y a] b = [r.sp Y (begY Y), r.sp Y a] := by
        unfold cS; rw [if_pos]
        rcases hb with q | q
        · exact .inr (.inr ⟨by simp, (show b = a by omega)⟩)
        · exact .inr (.inl q)
      rw [e3, tidy2, alk_sp]
      have hlast : ∀ x : List Sp × Int × Bool, x.2 = (r.off Y a, r.sum Y a) → spStep r Y x b = x := by
        intro x hx
        by_cases q : b ≤ begY Y ∨ begY (Y + 1) ≤ b
        · exact Tb.step_skip q
        · have : b = a := by omega
          subst this
          exact Tb.step_same q (by rw [hx]; exact eqT_iff.2 ⟨rfl, rfl⟩)
      cases he : eqT (r.off Y a) (r.sum Y a) (r.off Y (begY Y)) (r.sum Y (begY Y)) with
      | true =>
        rw [Tb.step_same ha he] at hs1
        obtain ⟨q1, q2⟩ := eqT_iff.1 he
        rw [hs1, hlast _ (by rw [q1, q2])]; rfl
      | false =>
        rw [Tb.step_new ha he] at hs1
        rw [hs1, hlast _ rfl]; rfl
    · have e3 : cS r Y (begY Y) (begY (Y + 1)) [r.sp Y (begY Y), r.sp Y a] b = [r.sp Y (begY Y), r.sp Y a, r.sp Y b] := by
        unfold cS; rw [if_neg]; · rfl
        rintro (q | q | ⟨_, q⟩)
        · omega
        · omega
        · have q' : b = a := q
          omega
      have hb' : ¬ (b ≤ begY Y ∨ begY (Y + 1) ≤ b) := by omega
      rw [e3, tidy3, alk_sp, alk_sp]
      cases he : eqT (r.off Y a) (r.sum Y a) (r.off Y (begY Y)) (r.sum Y (begY Y)) with
      | true =>
        rw [Tb.step_same ha he] at hs1
        obtain ⟨q1, q2⟩ := eqT_iff.1 he
        rw [hs1]
        cases hf : eqT (r.off Y b) (r.sum Y b) (r.off Y a) (r.sum Y a) with
        | true => rw [Tb.step_same hb' (by rw [← q1, ← q2]; exact hf)]; rfl
        | false => rw [Tb.step_new hb' (by rw [← q1, ← q2]; exact hf)]; rfl
      | false =>
        rw [Tb.step_new ha he] at hs1
        rw [hs1]
        cases hf : eqT (r.off Y b) (r.sum Y b) (r.off Y a) (r.sum Y a) with
        | true => rw [Tb.step_same hb' hf]; rfl
        | false => rw [Tb.step_new hb' hf]; rfl
end Go.Proofs.YtefcjccapekjdaaDoor.Ft
namespace Go.Proofs.YtefcjccapekjdaaDoor.Tb
open Go.ChangeShapes Go.WideShapes Go.ChangeAt Go.RowKit
open Go.Proofs.YtefcjccapekjdaaDoor
open Go.Proofs.YtefcjccapekjdaaDoor.Wd
open Go.Proofs.YtefcjccapekjdaaDoor.Rec
open Go.Proofs.YtefcjccapekjdaaDoor.Yr
open Go.Proofs.YtefcjccapekjdaaDoor.Clk (yrV yrE)
open Go.Proofs.YtefcjccapekjdaaDoor.Civ (Tab Inv)
set_option linter.unusedVariables false
open Go.Proofs.YtefcjccapekjdaaDoor.Ft (Spans)
set_option maxRecDepth 20000 in
set_option maxHeartbeats 1600000 in
theorem rtspans_any (F L : Int) (A : Option Addr) (n c B : Nat) (l : List Rc) (y : Int) (w : World) (hT : Tab w) (hR : Recs w B A n l) (hB : B ≤ w.heap.size) (hm : n ≤ maxLen) :
    Calls Tryd.prog 44 #[tbV F L A n c, .int .i64 y] w fun e w' => ∃ A' n' c', e = .returned (.tuple #[.slice A' n' c', .int .i64 (pkE F L l y)]) ∧ Spans w' w'.heap.size A' n' (tsL F L l y) ∧ n' ≤ 3 ∧ n' ≤ c' ∧ Below w.heap.size w w' := by
  have i0 := Inv.start hT
  have i1 := i0.alloc (.cells (tbA F L A n c) 40)
  have x1 := Blk.new w 40 (tbA F L A n c)
  have hR1 := hR.below (i1.2.mono hB)
  have hp := fun w (hT : Tab w) (hR : Recs w B A n l) (hB : B ≤ w.heap.size) => Rf.rpick_any F L A n c B l y w hT hR hB hm
  rcases pk_cases F L l y with h0 | ⟨h0, hk, y1, y2, he⟩
  · have hL := Lib.hid (show tsL F L l y = [] by unfold tsL; rw [if_neg h0])
    have h0b : (pkE F L l y != 0) = true := by rw [bne_iff_ne]; exact h0
    have H0 := Lib.hid h0
    clear h0
    generalize pkE F L l y = E at *
    obtain ⟨R, eR⟩ : ∃ R, pkR F L l y = R := ⟨_, rfl⟩
    rw [eR] at hp
    clear eR
    go_enter Tryd.func44, Tryd.ntmps44
    go_wp2_with (refine wpList_row_g rfl 40 _ rfl _ rfl _ _ _ _ x1 Tryd.underlying40 rfl (by kernel_rfl) ?_)
    refine (hp _ i1.1 hR1 (by have := i1.2.size; omega)).mono ?_; rintro e w2 ⟨rfl, hb2⟩
    have i2 := (i1.call hb2).alloc (.cells R.A 26)
    go_wp2_with (refine wpList_store_new rfl 26 _ _ rfl rfl w2.heap.size R.A rfl rfl _ #[.int .i32 0, .int .i32 0, .int .i32 0, .int .u16 0, .int .u16 0, .int .u16 0, .int .u16 0, .int .u16 0, .int .u16 0, .int .u16 0, .int .u16 0, .int .u16 0, .int .u16 0, .int .u16 0, .int .u16 0, .int .u16 0, .int .u16 0, .int .u16 0, .int .u16 0] w2 rfl rfl rfl (by kernel_rfl) (by kernel_rfl) ?_)
    go_ret2
    exact ⟨none, 0, 0, rfl, by rw [hL.out]; exact ⟨rfl, Reads.none_⟩, Nat.zero_le _, Nat.zero_le _, i2.2⟩
  · have hL := Lib.hid (show tsL F L l y = spL (pick F L l y) y by unfold tsL; rw [if_pos h0])
    rw [h0, he] at hp
    rw [h0]
    have hbd := hR.2.2 _ (pick_mem hk y)
    have hok := pick_ok hk y
    have hsp := fun w hT => Ft.rspans_yes (pick F L l y) y w hT hbd hok y1 y2
    have htd := Ft.tidy_sp (pick F L l y) y (begY_lt (by omega))
    rw [htd] at hsp
    clear htd
    clear he h0 hk
    generalize pick F L l y = R at *
    go_enter Tryd.func44, Tryd.ntmps44
    go_wp2_with (refine wpList_row_g rfl 40 _ rfl _ rfl _ _ _ _ x1 Tryd.underlying40 rfl (by kernel_rfl) ?_)
    refine (hp _ i1.1 hR1 (by have := i1.2.size; omega)).mono ?_; rintro e w2 ⟨rfl, hb2⟩
    have i2 := (i1.call hb2).alloc (.cells R.A 26)
    have x2 := Blk.new w2 26 R.A
    go_wp2_with (first | refine wpList_store_new rfl 26 _ _ rfl rfl w2.heap.size R.A rfl rfl _ #[.int .i32 0, .int .i32 0, .int .i32 0, .int .u16 0, .int .u16 0, .int .u16 0, .int .u16 0, .int .u16 0, .int .u16 0, .int .u16 0, .int .u16 0, .int .u16 0, .int .u16 0, .int .u16 0, .int .u16 0, .int .u16 0, .int .u16 0, .int .u16 0, .int .u16 0] w2 rfl rfl rfl (by kernel_rfl) (by kernel_rfl) ?_ | refine wpList_row_g rfl 26 _ rfl _ rfl _ _ _ _ x2 Tryd.underlying26 rfl (by kernel_rfl) ?_)
    refine (hsp _ i2.1).mono ?_; rintro e w3 ⟨A', m, cm, rfl, hS, hm3, hmc, hb3⟩
    have i3 := i2.call hb3
    go_wp2_with fail
    go_ret2
    exact ⟨A', m, cm, rfl, by rw [hL.out]; exact hS, hm3, hmc, i3.2⟩
end Go.Proofs.YtefcjccapekjdaaDoor.Tb
