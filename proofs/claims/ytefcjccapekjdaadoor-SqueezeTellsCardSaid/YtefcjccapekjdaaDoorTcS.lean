/-
  TABLES: what holds in a year: table.Spans, walked.
-/
import Derived.Test.YtefcjccapekjdaaDoorTbP
import Derived.Test.YtefcjccapekjdaaDoorSpE
import Derived.Test.YtefcjccapekjdaaDoorFtL
namespace Go.Proofs.YtefcjccapekjdaaDoor.Tb
open Go.ChangeShapes Go.WideShapes Go.ChangeAt Go.RowKit
open Go.Proofs.YtefcjccapekjdaaDoor
open Go.Proofs.YtefcjccapekjdaaDoor.Wd
open Go.Proofs.YtefcjccapekjdaaDoor.Rec
open Go.Proofs.YtefcjccapekjdaaDoor.Yr
open Go.Proofs.YtefcjccapekjdaaDoor.Clk (yrV yrE)
open Go.Proofs.YtefcjccapekjdaaDoor.Civ (Tab Inv)
set_option linter.unusedVariables false
open Go.Proofs.YtefcjccapekjdaaDoor.Ft (Spans)
def tsL (F L : Int) (l : List Rc) (y : Int) : List Sp := if pkE F L l y = 0 then spL (pick F L l y) y else []
theorem pk_cases (F L : Int) (l : List Rc) (y : Int) : pkE F L l y ≠ 0 ∨ (pkE F L l y = 0 ∧ tbOk F L l = true ∧ 1601 ≤ y ∧ y ≤ 9999 ∧ pkR F L l y = pick F L l y) := by
  by_cases h : pkE F L l y = 0
  · right
    refine ⟨h, ?_, ?_, ?_, ?_⟩
    · cases hk : tbOk F L l with
      | true => rfl
      | false => unfold pkE at h; rw [hk] at h; simp at h
    · unfold pkE at h; split at h <;> first | omega | (split at h <;> omega)
    · unfold pkE at h; split at h <;> first | omega | (split at h <;> omega)
    · unfold pkR; rw [if_pos h]
  · exact .inl h
set_option maxRecDepth 20000 in
set_option maxHeartbeats 1600000 in
theorem tspans_any (F L : Int) (A : Option Addr) (n c B : Nat) (l : List Rc) (y : Int) (w : World) (hT : Tab w) (hR : Recs w B A n l) (hB : B ≤ w.heap.size) (hm : n ≤ maxLen) :
    Calls Tryd.prog 43 #[tbV F L A n c, .int .i64 y] w fun e w' => ∃ A' n' c', e = .returned (.tuple #[.slice A' n' c', .int .i64 (pkE F L l y)]) ∧ Spans w' w'.heap.size A' n' (tsL F L l y) ∧ n' ≤ 3 ∧ n' ≤ c' ∧ (pkE F L l y = 0 → ∃ g, A' = some ⟨g, 0, none⟩) ∧ Below w.heap.size w w' := by
  have i0 := Inv.start hT
  have i1 := i0.alloc (.cells (tbA F L A n c) 40)
  have x1 := Blk.new w 40 (tbA F L A n c)
  have hR1 := hR.below (i1.2.mono hB)
  have hp := fun w (hT : Tab w) (hR : Recs w B A n l) (hB : B ≤ w.heap.size) => pick_any F L A n c B l y w hT hR hB hm
  rcases pk_cases F L l y with h0 | ⟨h0, hk, y1, y2, he⟩
  · have hL := Lib.hid (show tsL F L l y = [] by unfold tsL; rw [if_neg h0])
    have h0b : (pkE F L l y != 0) = true := by rw [bne_iff_ne]; exact h0
    have H0 := Lib.hid h0
    clear h0
    generalize pkE F L l y = E at *
    obtain ⟨R, eR⟩ : ∃ R, pkR F L l y = R := ⟨_, rfl⟩
    rw [eR] at hp
    clear eR
    go_enter Tryd.func43, Tryd.ntmps43
    go_wp2_with (refine wpList_row_g rfl 40 _ rfl _ rfl _ _ _ _ x1 Tryd.underlying40 rfl (by kernel_rfl) ?_)
    refine (hp _ i1.1 hR1 (by have := i1.2.size; omega)).mono ?_; rintro e w2 ⟨rfl, hb2⟩
    have i2 := (i1.call hb2).alloc (.cells R.A 26)
    go_wp2_with (refine wpList_store_new rfl 26 _ _ rfl rfl w2.heap.size R.A rfl rfl _ #[.int .i32 0, .int .i32 0, .int .i32 0, .int .u16 0, .int .u16 0, .int .u16 0, .int .u16 0, .int .u16 0, .int .u16 0, .int .u16 0, .int .u16 0, .int .u16 0, .int .u16 0, .int .u16 0, .int .u16 0, .int .u16 0, .int .u16 0, .int .u16 0, .int .u16 0] w2 rfl rfl rfl (by kernel_rfl) (by kernel_rfl) ?_)
    go_ret2
    exact ⟨none, 0, 0, rfl, by rw [hL.out]; exact ⟨rfl, Reads.none_⟩, Nat.zero_le _, Nat.zero_le _, fun h => absurd h H0.out, i2.2⟩
  · have hL := Lib.hid (show tsL F L l y = spL (pick F L l y) y by unfold tsL; rw [if_pos h0])
    rw [h0, he] at hp
    rw [h0]
    have hbd := hR.2.2 _ (pick_mem hk y)
    have hok := pick_ok hk y
    have hsp := fun w hT => spans_yes (pick F L l y) y w hT hbd hok y1 y2
    have hl3 := Lib.hid (spL_len (pick F L l y) y)
    clear he h0 hk
    generalize pick F L l y = R at *
    go_enter Tryd.func43, Tryd.ntmps43
    go_wp2_with (refine wpList_row_g rfl 40 _ rfl _ rfl _ _ _ _ x1 Tryd.underlying40 rfl (by kernel_rfl) ?_)
    refine (hp _ i1.1 hR1 (by have := i1.2.size; omega)).mono ?_; rintro e w2 ⟨rfl, hb2⟩
    have i2 := (i1.call hb2).alloc (.cells R.A 26)
    have x2 := Blk.new w2 26 R.A
    go_wp2_with (first | refine wpList_store_new rfl 26 _ _ rfl rfl w2.heap.size R.A rfl rfl _ #[.int .i32 0, .int .i32 0, .int .i32 0, .int .u16 0, .int .u16 0, .int .u16 0, .int .u16 0, .int .u16 0, .int .u16 0, .int .u16 0, .int .u16 0, .int .u16 0, .int .u16 0, .int .u16 0, .int .u16 0, .int .u16 0, .int .u16 0, .int .u16 0, .int .u16 0] w2 rfl rfl rfl (by kernel_rfl) (by kernel_rfl) ?_ | refine wpList_row_g rfl 26 _ rfl _ rfl _ _ _ _ x2 Tryd.underlying26 rfl (by kernel_rfl) ?_)
    refine (hsp _ i2.1).mono ?_; rintro e w3 ⟨g, m, cm, rfl, hn, hmc, hr, hg, hb3⟩
    have i3 := i2.call hb3
    have HN := Lib.hid hn; clear hn
    go_wp2_with fail
    go_ret2
    exact ⟨some ⟨g, 0, none⟩, m, cm, rfl, by rw [hL.out]; exact ⟨HN.out.symm, hr⟩, by have := hl3.out.2; have := HN.out; omega, hmc, fun _ => ⟨g, rfl⟩, i3.2⟩
end Go.Proofs.YtefcjccapekjdaaDoor.Tb
