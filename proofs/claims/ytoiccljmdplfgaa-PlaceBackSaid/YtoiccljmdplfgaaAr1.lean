/-
  AREAS: right or not; the iterator over the sides; whether a point crosses a side: walked.
-/
import Derived.Test.YtoiccljmdplfgaaArI
import Derived.Test.YtoiccljmdplfgaaNmV
import Derived.Test.YtoiccljmdplfgaaPl2
namespace Go.Proofs.Ytoiccljmdplfgaa.Ar
open Go.ChangeShapes Go.WideShapes Go.ChangeAt Go.RowKit Go.Shelf
open Go.Proofs.Ytoiccljmdplfgaa
open Go.Proofs.Ytoiccljmdplfgaa.Wd
open Go.Proofs.Ytoiccljmdplfgaa.Pl
open Go.Proofs.Ytoiccljmdplfgaa.Nv
set_option linter.unusedVariables false
attribute [local go_sem] Oper.semAt_some
abbrev arA (z : ByteArray) (A : Option Addr) (n c : Nat) : Array Value := #[.string z, .slice A n c]
abbrev arV (z : ByteArray) (A : Option Addr) (n c : Nat) : Value := .agg #[.string z, .slice A n c]
def arOk (z : ByteArray) (l : List P2) : Bool := nmB z && (decide (3 ≤ l.length ∧ l.length ≤ 1024) && okP l)
def arE (z : ByteArray) (l : List P2) : Int := if arOk z l = true then 0 else 2
theorem ar_iff {z : ByteArray} {l : List P2} : arOk z l = true ↔ nmB z = true ∧ (3 ≤ l.length ∧ l.length ≤ 1024) ∧ okP l = true := by
  unfold arOk; rw [Bool.and_eq_true, Bool.and_eq_true, decide_eq_true_iff]
theorem arE_no {z : ByteArray} {l : List P2} (h : arOk z l = false) : arE z l = 2 := by unfold arE; rw [h]; rfl
theorem arE_yes {z : ByteArray} {l : List P2} (h : arOk z l = true) : arE z l = 0 := by unfold arE; rw [h]; rfl
set_option maxRecDepth 20000 in
set_option maxHeartbeats 3200000 in
theorem acheck_any (z : ByteArray) (A : Option Addr) (n c B : Nat) (l : List P2) (w : World) (hz : z.size ≤ maxLen) (hR : Pts w B A n l) (hB : B ≤ w.heap.size) (hm : n ≤ maxLen) :
    Calls Try.prog 23 #[arV z A n c] w fun e w' => e = .returned (.int .i64 (arE z l)) ∧ Below w.heap.size w w' := by
  have hll := hR.1
  unfold maxLen at hm
  have i1 := (BI.start w).alloc (.cells (arA z A n c) 34)
  have x1 := Blk.new w 34 (arA z A n c)
  have hnm := fun w => name_any z w hz
  have d0 : (w.alloc (.cells (arA z A n c) 34)).cell? ⟨w.heap.size, 0, none⟩ = some (.string z) := x1.cell 0
  cases hn : nmB z
  · have hE := Lib.hid (arE_no (z := z) (l := l) (by unfold arOk; rw [hn]; rfl))
    rw [hn] at hnm
    clear hn
    go_enter Try.func23, Try.ntmps23
    go_wp2_with fail
    refine (hnm _).mono ?_; rintro e w2 ⟨rfl, hb2⟩
    have i2 := i1.call hb2
    go_wp2_with fail
    go_ret
    exact ⟨by rw [hE.out]; rfl, i2⟩
  · rw [hn] at hnm
    by_cases h3 : (n : Int) < 3
    · have hE := Lib.hid (arE_no (z := z) (l := l) (by unfold arOk; rw [decide_eq_false (by omega : ¬ (3 ≤ l.length ∧ l.length ≤ 1024)), hn]; rfl))
      clear hn
      go_enter Try.func23, Try.ntmps23
      go_wp2_with fail
      refine (hnm _).mono ?_; rintro e w2 ⟨rfl, hb2⟩
      have i2 := i1.call hb2
      have d1 : w2.cell? ⟨w.heap.size, 1, none⟩ = some (.slice A n c) := (x1.below hb2 x1.lt).cell 1
      go_wp2_with fail
      go_ret
      exact ⟨by rw [hE.out]; rfl, i2⟩
    · by_cases h4 : (1024 : Int) < (n : Int)
      · have hE := Lib.hid (arE_no (z := z) (l := l) (by unfold arOk; rw [decide_eq_false (by omega : ¬ (3 ≤ l.length ∧ l.length ≤ 1024)), hn]; rfl))
        clear hn
        go_enter Try.func23, Try.ntmps23
        go_wp2_with fail
        refine (hnm _).mono ?_; rintro e w2 ⟨rfl, hb2⟩
        have i2 := i1.call hb2
        have d1 : w2.cell? ⟨w.heap.size, 1, none⟩ = some (.slice A n c) := (x1.below hb2 x1.lt).cell 1
        go_wp2_with fail
        go_ret
        exact ⟨by rw [hE.out]; rfl, i2⟩
      · have HOK := Lib.hid (show arOk z l = okP l by unfold arOk; rw [decide_eq_true (by omega : 3 ≤ l.length ∧ l.length ≤ 1024), hn]; rfl)
        clear hn
        go_enter Try.func23, Try.ntmps23
        go_wp2_with fail
        refine (hnm _).mono ?_; rintro e w2 ⟨rfl, hb2⟩
        have i2 := i1.call hb2
        have d1 : w2.cell? ⟨w.heap.size, 1, none⟩ = some (.slice A n c) := (x1.below hb2 x1.lt).cell 1
        clear i1 hb2 x1 d0
        go_wp2_with fail
        go_loopw [24] (fun i w' => ∃ k : Nat, i = .int .i64 k ∧ k ≤ n ∧ okP (l.take k) = true ∧ BI w w') (fun i _ => n - (intOf i).toNat)
        case atStart => exact ⟨0, rfl, Nat.zero_le _, by simp [okP], i2⟩
        case round =>
          clear i2 d1
          obtain ⟨k, rfl, hk, hall, hb⟩ := hrel
          by_cases hlt : k < n
          · have hlt' : (k : Int) < (n : Int) := by omega
            have hkl : k < l.length := by omega
            obtain ⟨ad, rfl, hrow⟩ := (hR.below (hb.b.mono hB)).row hlt hkl
            have hT := Lib.hid (okP_take hkl)
            have hNo := Lib.hid (okP_no hkl)
            have HA := Lib.hid hall; clear hall
            generalize l[k] = r at *
            have hb1 := hb.alloc (.cells r.A 23)
            have xz := Blk.new wr 23 r.A
            go_wp2_with (first | refine wpList_at_g rfl 23 _ rfl B _ r.A rfl _ hrow Try.underlying23 rfl (by kernel_rfl) ?_ | refine wpList_store_new rfl 23 _ _ rfl rfl wr.heap.size r.A rfl rfl _ #[.int .i64 0, .int .i64 0] wr rfl rfl rfl (by kernel_rfl) (by kernel_rfl) ?_ | refine wpList_row_g rfl 23 _ rfl _ rfl _ _ _ _ xz Try.underlying23 rfl (by kernel_rfl) ?_)
            refine (check_any r _).mono ?_; rintro e w1 ⟨rfl, hb2⟩
            have hb3 := hb1.call hb2
            clear hb1 hb2 hb
            cases hr : r.ok
            · have HF := Lib.hid (hNo.out hr)
              have hv : (chkV r != 0) = true := by unfold chkV; rw [hr]; rfl
              have hE := Lib.hid (arE_no (z := z) (l := l) (by rw [HOK.out, HF.out]))
              clear hr
              go_wp2_with fail
              go_ret
              exact ⟨by rw [hE.out]; rfl, hb3⟩
            · have HF := Lib.hid hr
              have hv : (chkV r != 0) = false := by unfold chkV; rw [hr]; rfl
              clear hr
              go_wp2_with fail
              go_roundw
              case rel => exact ⟨k + 1, by go_num, by omega, by rw [hT.out, HA.out, HF.out]; rfl, hb3⟩
              case measure => simp [intOf]; omega
          · obtain rfl : k = n := by omega
            have hlt' : ¬ (k : Int) < (k : Int) := by omega
            rw [List.take_of_length_le (by omega)] at hall
            have hE := Lib.hid (arE_yes (z := z) (l := l) (by rw [HOK.out, hall]))
            clear hall
            go_wp2_with fail
            go_ret
            exact ⟨by rw [hE.out]; rfl, hb⟩
def rtB (z : ByteArray) (l : List P2) (p : P2) : Bool := p.ok && arOk z l
set_option maxRecDepth 20000 in
set_option maxHeartbeats 1600000 in
theorem aright_any (z : ByteArray) (A : Option Addr) (n c : Nat) (l : List P2) (p : P2) (w : World) (hz : z.size ≤ maxLen) (hR : Pts w w.heap.size A n l) (hm : n ≤ maxLen) :
    Calls Try.prog 57 #[arV z A n c, p.V] w fun e w' => e = .returned (.bool (rtB z l p)) ∧ Below w.heap.size w w' := by
  have i1 := ((BI.start w).alloc (.cells (arA z A n c) 34)).alloc (.cells p.A 23)
  have x1 := (Blk.new w 34 (arA z A n c)).alloc (.cells p.A 23)
  have y1 := blk_at (w.alloc (.cells (arA z A n c) 34)) 23 p.A (sz1 _ _ rfl)
  cases hp : p.ok
  · have hv : (chkV p == 0) = false := by unfold chkV; rw [hp]; rfl
    have hE := Lib.hid (show rtB z l p = false by unfold rtB; rw [hp]; rfl)
    clear hp
    go_enter Try.func57, Try.ntmps57
    go_wp2_with (first | refine wpList_row_g rfl 23 _ rfl _ rfl _ _ _ _ y1 Try.underlying23 rfl (by kernel_rfl) ?_)
    refine (check_any p _).mono ?_; rintro e w2 ⟨rfl, hb2⟩
    have i2 := i1.call hb2
    go_wp2_with fail
    go_ret
    exact ⟨by rw [hE.out]; rfl, i2⟩
  · have hv : (chkV p == 0) = true := by unfold chkV; rw [hp]; rfl
    have hE := Lib.hid (show rtB z l p = arOk z l by unfold rtB; rw [hp]; rfl)
    have hck := fun W (i : BI w W) => acheck_any z A n c w.heap.size l W hz (hR.below i.b) i.b.size hm
    clear hp
    go_enter Try.func57, Try.ntmps57
    go_wp2_with (first | refine wpList_row_g rfl 23 _ rfl _ rfl _ _ _ _ y1 Try.underlying23 rfl (by kernel_rfl) ?_)
    refine (check_any p _).mono ?_; rintro e w2 ⟨rfl, hb2⟩
    have i2 := i1.call hb2
    have x2 := x1.below hb2 x1.lt
    clear i1 x1 y1 hb2
    go_wp2_with (first | refine wpList_row_g rfl 34 _ rfl _ rfl _ _ _ _ x2 Try.underlying34 rfl (by kernel_rfl) ?_)
    refine (hck _ i2).mono ?_; rintro e w3 ⟨rfl, hb3⟩
    have i3 := i2.call hb3
    clear i2 hck
    cases ha : arOk z l
    · have hv2 : (arE z l == 0) = false := by rw [arE_no ha]; rfl
      rw [ha] at hE
      clear ha
      go_wp2_with fail
      go_ret
      exact ⟨by rw [hE.out]; rfl, i3⟩
    · have hv2 : (arE z l == 0) = true := by rw [arE_yes ha]; rfl
      rw [ha] at hE
      clear ha
      go_wp2_with fail
      go_ret
      exact ⟨by rw [hE.out]; rfl, i3⟩
theorem asides_any (z : ByteArray) (A : Option Addr) (n c : Nat) (w : World) :
    Calls Try.prog 62 #[arV z A n c] w fun e w' => e = .returned (.func (.func 83) #[] #[.pointer (some ⟨w.heap.size, 0, none⟩)]) ∧ w' = w.alloc (.cells (arA z A n c) 34) := by
  go_enter Try.func62, Try.ntmps62
  go_wp2_with fail
  go_ret
  exact ⟨rfl, rfl⟩
/-- whether a point crosses a side, going east: the higher end counts, the lower one does not -/
def crB (a b p : P2) : Bool := if b.la < a.la then (decide (b.la ≤ p.la) && (decide (p.la < a.la) && decide (turnV b a p = 1))) else (decide (a.la ≤ p.la) && (decide (p.la < b.la) && decide (turnV a b p = 1)))
set_option maxRecDepth 20000 in
set_option maxHeartbeats 3200000 in
theorem crossed_lo (a b p : P2) (w : World) (h : ¬ b.la < a.la) :
    Calls Try.prog 79 #[a.V, b.V, p.V] w fun e w' => e = .returned (.bool (crB a b p)) ∧ Below w.heap.size w w' := by
  have i1 := (((BI.start w).alloc (.cells a.A 23)).alloc (.cells b.A 23)).alloc (.cells p.A 23)
  have xa := ((Blk.new w 23 a.A).alloc (.cells b.A 23)).alloc (.cells p.A 23)
  have xb := (blk_at (w.alloc (.cells a.A 23)) 23 b.A (sz1 _ _ rfl)).alloc (.cells p.A 23)
  have xp := blk_at ((w.alloc (.cells a.A 23)).alloc (.cells b.A 23)) 23 p.A (sz1 _ _ (sz1 _ _ rfl))
  have hE := Lib.hid (show crB a b p = (decide (a.la ≤ p.la) && (decide (p.la < b.la) && decide (turnV a b p = 1))) by unfold crB; rw [if_neg h])
  have ht := fun w => turn_any a b p w
  by_cases g1 : a.la ≤ p.la
  · by_cases g2 : p.la < b.la
    · go_enter Try.func79, Try.ntmps79
      go_wp2_with (first | refine wpList_row_g rfl 23 _ rfl _ rfl _ _ _ _ xa Try.underlying23 rfl (by kernel_rfl) ?_ | refine wpList_row_g rfl 23 _ rfl _ rfl _ _ _ _ xb Try.underlying23 rfl (by kernel_rfl) ?_ | refine wpList_row_g rfl 23 _ rfl _ rfl _ _ _ _ xp Try.underlying23 rfl (by kernel_rfl) ?_)
      refine (ht _).mono ?_; rintro e w2 ⟨rfl, hb2⟩
      have i2 := i1.call hb2
      rw [decide_eq_true g1, decide_eq_true g2] at hE
      cases hq : decide (turnV a b p = 1)
      · have hq2 : (turnV a b p == 1) = false := by simpa using hq
        rw [hq] at hE
        clear hq
        go_wp2_with fail
        go_ret
        exact ⟨by rw [hE.out]; rfl, i2⟩
      · have hq2 : (turnV a b p == 1) = true := by simpa using hq
        rw [hq] at hE
        clear hq
        go_wp2_with fail
        go_ret
        exact ⟨by rw [hE.out]; rfl, i2⟩
    · rw [decide_eq_false g2] at hE
      rw [decide_eq_true g1] at hE
      go_enter Try.func79, Try.ntmps79
      go_wp2_with fail
      go_ret
      exact ⟨by rw [hE.out]; rfl, i1⟩
  · rw [decide_eq_false g1] at hE
    go_enter Try.func79, Try.ntmps79
    go_wp2_with fail
    go_ret
    exact ⟨by rw [hE.out]; rfl, i1⟩
end Go.Proofs.Ytoiccljmdplfgaa.Ar
