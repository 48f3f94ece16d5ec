/-
  TABLES: table.Check (its records one by one), table.of, walked.
-/
import Derived.Test.YtefcjccapekjdaaDoorTbA
namespace Go.Proofs.YtefcjccapekjdaaDoor.Tb
open Go.ChangeShapes Go.WideShapes Go.ChangeAt Go.RowKit
open Go.Proofs.YtefcjccapekjdaaDoor
open Go.Proofs.YtefcjccapekjdaaDoor.Wd
open Go.Proofs.YtefcjccapekjdaaDoor.Rec
open Go.Proofs.YtefcjccapekjdaaDoor.Civ (Tab Inv)
set_option linter.unusedVariables false
abbrev fnV (f : FuncId) : Value := .func (.func f) #[] #[]
set_option maxRecDepth 20000 in
set_option maxHeartbeats 1600000 in
theorem right_any (r : Rc) (w : World) (hT : Tab w) (B : r.Bd) :
    Calls Tryd.prog 103 #[r.V] w fun e w' => e = .returned (.bool (!r.ok)) ∧ Below w.heap.size w w' := by
  have i0 := Civ.Inv.start hT
  have i1 := i0.alloc (.cells r.A 26)
  have x0 := Blk.new w 26 r.A
  have hc := chk_any r.b r.c r.d r.p r.q _ i1.1 B
  cases h : r.ok
  · rw [show rcE r.b r.c r.d r.p r.q = 2 by unfold rcE; rw [show rcOk r.b r.c r.d r.p r.q = false from h]; rfl] at hc
    clear h
    go_enter Tryd.func103, Tryd.ntmps103
    go_wp2_with (refine wpList_row_g rfl 26 _ rfl _ rfl _ _ _ _ x0 Tryd.underlying26 rfl (by kernel_rfl) ?_)
    refine hc.mono ?_; rintro e w1 ⟨rfl, hb1⟩
    have i2 := i1.call hb1
    go_wp2_with fail
    go_ret
    exact ⟨rfl, i2.2⟩
  · rw [show rcE r.b r.c r.d r.p r.q = 0 by unfold rcE; rw [show rcOk r.b r.c r.d r.p r.q = true from h]; rfl] at hc
    clear h
    go_enter Tryd.func103, Tryd.ntmps103
    go_wp2_with (refine wpList_row_g rfl 26 _ rfl _ rfl _ _ _ _ x0 Tryd.underlying26 rfl (by kernel_rfl) ?_)
    refine hc.mono ?_; rintro e w1 ⟨rfl, hb1⟩
    have i2 := i1.call hb1
    go_wp2_with fail
    go_ret
    exact ⟨rfl, i2.2⟩
theorem okL_take {l : List Rc} {k : Nat} (h : k < l.length) : okL (l.take (k + 1)) = (okL (l.take k) && l[k].ok) := by
  unfold okL; rw [List.take_succ_eq_append_getElem h, List.all_append]; simp
theorem okL_no {l : List Rc} {k : Nat} (h : k < l.length) (hp : l[k].ok = false) : okL l = false := by
  unfold okL; rw [List.all_eq_false]; exact ⟨l[k], List.getElem_mem h, by rw [hp]; decide⟩
set_option maxRecDepth 20000 in
set_option maxHeartbeats 1600000 in
theorem index_any (A : Option Addr) (n c B : Nat) (l : List Rc) (w : World) (hT : Tab w) (hR : Recs w B A n l) (hB : B ≤ w.heap.size) (hn : n ≤ 1000) :
    Calls Tryd.prog 134 #[.slice A n c, fnV 103] w
      fun e w' => (∃ i : Int, e = .returned (.int .i64 i) ∧ ((i = -1 ∧ okL l = true) ∨ (0 ≤ i ∧ okL l = false))) ∧ Below w.heap.size w w' := by
  have hll : l.length = n := hR.1
  go_enter Tryd.func134, Tryd.ntmps134
  go_wp2
  go_loopw [5, 8] (fun _ i w' => ∃ k : Nat, i = .int .i64 k ∧ k ≤ n ∧ okL (l.take k) = true ∧ Inv w w') (fun _ i _ => n - (intOf i).toNat)
  case atStart => exact ⟨0, rfl, Nat.zero_le _, by simp [okL], Civ.Inv.start hT⟩
  case round =>
    obtain ⟨k, rfl, hk, hall, iv⟩ := hrel
    by_cases hlt : k < n
    · have hlt' : (k : Int) < (n : Int) := by omega
      have hkl : k < l.length := by omega
      obtain ⟨ad, rfl, hrow⟩ := (hR.below (iv.2.mono hB)).row hlt hkl
      have hbd := hR.bd hkl
      have hT := Lib.hid (okL_take hkl)
      have hNo := Lib.hid (okL_no hkl)
      have HA := Lib.hid hall; clear hall
      generalize l[k] = r at *
      go_wp2_with (refine wpList_at_g rfl 26 _ rfl B _ r.A rfl _ hrow Tryd.underlying26 rfl (by kernel_rfl) ?_)
      refine (right_any r _ iv.1 hbd).mono ?_; rintro e w1 ⟨rfl, hb1⟩
      have iv1 := iv.call hb1
      cases hr : r.ok
      · have HF := Lib.hid (hNo.out hr)
        clear hr
        go_wp2_with fail
        go_ret
        exact ⟨⟨_, rfl, Or.inr ⟨by omega, HF.out⟩⟩, iv1.2⟩
      · have HF := Lib.hid hr
        clear hr
        go_wp2_with fail
        go_roundw
        case rel => exact ⟨k + 1, by go_num, by omega, by rw [hT.out, HA.out, HF.out]; rfl, iv1⟩
        case measure => simp [intOf]; omega
    · obtain rfl : k = n := by omega
      have hlt' : ¬ (k : Int) < (k : Int) := by omega
      rw [List.take_of_length_le (by omega)] at hall
      have HA := Lib.hid hall; clear hall
      go_wp2
      go_ret
      exact ⟨⟨_, rfl, Or.inl ⟨rfl, HA.out⟩⟩, iv.2⟩
set_option maxRecDepth 20000 in
set_option maxHeartbeats 1600000 in
theorem contains_any (A : Option Addr) (n c B : Nat) (l : List Rc) (w : World) (hT : Tab w) (hR : Recs w B A n l) (hB : B ≤ w.heap.size) (hn : n ≤ 1000) :
    Calls Tryd.prog 102 #[.slice A n c, fnV 103] w
      fun e w' => e = .returned (.bool (!okL l)) ∧ Below w.heap.size w w' := by
  go_enter Tryd.func102, Tryd.ntmps102
  go_wp2_with fail
  refine (index_any A n c B l _ hT hR hB hn).mono ?_; rintro e w1 ⟨⟨i, rfl, h⟩, hb1⟩
  rcases h with ⟨rfl, h⟩ | ⟨h0, h⟩
  · go_wp2_with fail
    go_ret
    exact ⟨by rw [h]; rfl, hb1⟩
  · go_wp2_with fail
    go_ret
    exact ⟨by rw [h]; rfl, hb1⟩
set_option maxRecDepth 20000 in
set_option maxHeartbeats 1600000 in
theorem check_any (F L : Int) (A : Option Addr) (n c B : Nat) (l : List Rc) (w : World) (hT : Tab w) (hR : Recs w B A n l) (hB : B ≤ w.heap.size) (hm : n ≤ maxLen) :
    Calls Tryd.prog 45 #[tbV F L A n c] w fun e w' => e = .returned (.int .i64 (tbE F L l)) ∧ Below w.heap.size w w' := by
  have i0 := Civ.Inv.start hT
  have i1 := i0.alloc (.cells (tbA F L A n c) 40)
  have hll : l.length = n := hR.1
  by_cases hbd : bdT F L = true
  · have hbd' := hbd
    unfold bdT at hbd'
    simp at hbd'
    obtain ⟨b1, b2, b3, b4, b5⟩ := hbd'
    by_cases hlen : (n : Int) = L - F + 1
    · have HE := Lib.hid (show tbOk F L l = okL l by unfold tbOk; rw [hbd, hll, decide_eq_true hlen]; simp)
      clear hbd
      have hn : n ≤ 1000 := by omega
      have hc := contains_any A n c B l _ i1.1 (hR.below (i1.2.mono hB)) (by have := i1.2.size; omega) hn
      cases ho : okL l
      · have HO := Lib.hid ho
        rw [ho] at hc; clear ho
        go_enter Tryd.func45, Tryd.ntmps45
        go_wp2_with fail
        refine hc.mono ?_; rintro e w1 ⟨rfl, hb1⟩
        have i2 := i1.call hb1
        go_wp2_with fail
        go_ret
        exact ⟨by unfold tbE; rw [HE.out, HO.out]; rfl, i2.2⟩
      · have HO := Lib.hid ho
        rw [ho] at hc; clear ho
        go_enter Tryd.func45, Tryd.ntmps45
        go_wp2_with fail
        refine hc.mono ?_; rintro e w1 ⟨rfl, hb1⟩
        have i2 := i1.call hb1
        go_wp2_with fail
        go_ret
        exact ⟨by unfold tbE; rw [HE.out, HO.out]; rfl, i2.2⟩
    · have HE := Lib.hid (show tbE F L l = 2 by unfold tbE tbOk; rw [hll, decide_eq_false hlen]; simp)
      clear hbd
      go_enter Tryd.func45, Tryd.ntmps45
      go_wp2_with fail
      go_ret
      exact ⟨by rw [HE.out]; rfl, i1.2⟩
  · have HE := Lib.hid (show tbE F L l = 2 by unfold tbE tbOk; rw [Bool.eq_false_iff.2 hbd]; simp)
    have hs : F < 1601 ∨ (1601 ≤ F ∧ 9999 < F) ∨ (1601 ≤ F ∧ F ≤ 9999 ∧ L < F) ∨ (1601 ≤ F ∧ F ≤ 9999 ∧ F ≤ L ∧ 9999 < L) ∨ (1601 ≤ F ∧ F ≤ 9999 ∧ F ≤ L ∧ L ≤ 9999 ∧ F + 400 ≤ L) := by
      unfold bdT at hbd; simp at hbd; omega
    clear hbd
    rcases hs with h1 | ⟨h1, h2⟩ | ⟨h1, h2, h3⟩ | ⟨h1, h2, h3, h4⟩ | ⟨h1, h2, h3, h4, h5⟩
    all_goals
      go_enter Tryd.func45, Tryd.ntmps45
      go_wp2_with fail
      go_ret
      exact ⟨by rw [HE.out]; rfl, i1.2⟩
end Go.Proofs.YtefcjccapekjdaaDoor.Tb
