/-
  FIT: why there is no record of a year's spans: walked.
-/
import Derived.Test.YtginidedeefcdaaDoorFtS
namespace Go.Proofs.YtginidedeefcdaaDoor.Ft
open Go.ChangeShapes Go.WideShapes Go.ChangeAt Go.RowKit
open Go.Proofs.YtginidedeefcdaaDoor
open Go.Proofs.YtginidedeefcdaaDoor.Wd
open Go.Proofs.YtginidedeefcdaaDoor.Rec
open Go.Proofs.YtginidedeefcdaaDoor.Yr
open Go.Proofs.YtginidedeefcdaaDoor.Tb
open Go.Proofs.YtginidedeefcdaaDoor.Clk (yrV yrE)
open Go.Proofs.YtginidedeefcdaaDoor.Civ (Tab Inv)
set_option linter.unusedVariables false
theorem tm60 {o : Int} : (o % 60 ≠ 0 → (o.tmod 60 != 0) = true) ∧ (o % 60 = 0 → (o.tmod 60 != 0) = false) := by
  have := Cal.tm o 60
  constructor
  · intro h; rw [bne_iff_ne]; exact fun e => h (this.1 e)
  · intro h; rw [bne_eq_false_iff_eq]; exact this.2 h
theorem why_1 {l : List Sp} {F T : Int} (h : minB l = true) : whyV l F T = 1 := by unfold whyV; rw [if_pos h]
theorem why_2 {l : List Sp} {F T : Int} (h1 : minB l = false) (h : farB l = true) : whyV l F T = 2 := by unfold whyV; rw [h1, if_neg (by decide), if_pos h]
theorem why_3 {l : List Sp} {F T : Int} (h1 : minB l = false) (h2 : farB l = false) (h : 3 < l.length) : whyV l F T = 3 := by unfold whyV; rw [h1, h2, if_neg (by decide), if_neg (by decide), if_pos h]
theorem why_4 {l : List Sp} {F T : Int} (h1 : minB l = false) (h2 : farB l = false) (h3 : l.length ≤ 3) (h : shfB l = true) : whyV l F T = 4 := by unfold whyV; rw [h1, h2, if_neg (by decide), if_neg (by decide), if_neg (by omega), if_pos h]
theorem why_5 {l : List Sp} {F T : Int} (h1 : minB l = false) (h2 : farB l = false) (h3 : l.length ≤ 3) (h4 : shfB l = false) (h : datB l F T = true) : whyV l F T = 5 := by unfold whyV; rw [h1, h2, h4, if_neg (by decide), if_neg (by decide), if_neg (by omega), if_neg (by decide), if_pos h]
set_option maxRecDepth 100000 in
set_option maxHeartbeats 6400000 in
theorem why_any (A : Option Addr) (n c : Nat) (l : List Sp) (F T : Int) (w : World) (hs : Spans w w.heap.size A n l) (hm : n ≤ maxLen) (hc : n ≤ c)
    (hf : ∀ k, k < n → -62135596800 ≤ (at_ l k).f ∧ (at_ l k).f ≤ 253402300800) :
    Calls Tryd.prog 42 #[.slice A n c, .int .i64 F, .int .i64 T] w fun e w' => e = .returned (.int .u8 (whyV l F T)) ∧ Below w.heap.size w w' := by
  unfold maxLen at hm
  have hln := hs.1
  have HF := Lib.hid hf; clear hf
  have HL := Lib.hid hln; clear hln
  go_enter Tryd.func42, Tryd.ntmps42
  go_wp2_with fail
  go_loopw [19] (fun i wr => ∃ k : Nat, i = .int .i64 k ∧ k ≤ n ∧ (∀ j, j < k → (at_ l j).o % 60 = 0) ∧ Below w.heap.size w wr) (fun i _ => n - (intOf i).toNat)
  case atStart => exact ⟨0, rfl, Nat.zero_le _, fun j hj => absurd hj (Nat.not_lt_zero _), Below.refl _ _⟩
  case round =>
    obtain ⟨k, rfl, hk, hall, hb⟩ := hrel
    have HA := Lib.hid hall; clear hall
    by_cases hlt : k < n
    · have hlt' : (k : Int) < (n : Int) := by omega
      obtain ⟨ad, rfl, r1⟩ := (hs.below hb).row hlt
      obtain ⟨a, eA⟩ : ∃ a, at_ l k = a := ⟨_, rfl⟩
      rw [eA] at r1
      by_cases ho : a.o % 60 = 0
      · have t1 := tm60.2 ho
        have hN := Lib.hid (show ∀ j, j < k + 1 → (at_ l j).o % 60 = 0 from fun j hj => by
          by_cases e : j = k
          · subst e; rw [eA]; exact ho
          · exact HA.out j (by omega))
        clear eA ho
        go_wp2_with (refine wpList_at_g rfl 40 _ rfl w.heap.size _ a.A rfl _ r1 Tryd.underlying40 rfl (by kernel_rfl) ?_)
        go_roundw
        case rel => exact ⟨k + 1, by go_num, by omega, hN.out, hb.alloc hb.size _⟩
        case measure => simp [intOf]; omega
      · have t1 := tm60.1 ho
        have hE := Lib.hid (show whyV l F T = 1 from why_1 (any_yes (k := k) (by rw [HL.out]; exact hlt) (by rw [eA]; simpa using ho)))
        clear eA ho
        go_wp2_with (refine wpList_at_g rfl 40 _ rfl w.heap.size _ a.A rfl _ r1 Tryd.underlying40 rfl (by kernel_rfl) ?_)
        go_ret
        exact ⟨by rw [hE.out]; rfl, hb.alloc hb.size _⟩
    · obtain rfl : n = k := by omega
      have hlt' : ¬ (n : Int) < (n : Int) := by omega
      have h1 := Lib.hid (show minB l = false from any_none fun j hj => by have := HA.out j (by rw [HL.out] at hj; omega); simpa using this)
      clear HA
      obtain ⟨wa, rfl⟩ : ∃ wa : World, wa = wr := ⟨_, rfl⟩
      go_wp2_with fail
      go_loopw [30] (fun i wr => ∃ k : Nat, i = .int .i64 k ∧ k ≤ n ∧ (∀ j, j < k → -86400 ≤ (at_ l j).o ∧ (at_ l j).o ≤ 86400) ∧ Below w.heap.size w wr) (fun i _ => n - (intOf i).toNat)
      case atStart => exact ⟨0, rfl, Nat.zero_le _, fun j hj => absurd hj (Nat.not_lt_zero _), hb⟩
      case round =>
        clear hb hlt hlt' hk
        obtain ⟨k, rfl, hk, hall, hb⟩ := hrel
        have HA := Lib.hid hall; clear hall
        by_cases hlt : k < n
        · have hlt' : (k : Int) < (n : Int) := by omega
          obtain ⟨ad, rfl, r1⟩ := (hs.below hb).row hlt
          obtain ⟨a, eA⟩ : ∃ a, at_ l k = a := ⟨_, rfl⟩
          rw [eA] at r1
          have hcs : a.o < -86400 ∨ (¬ a.o < -86400 ∧ 86400 < a.o) ∨ (¬ a.o < -86400 ∧ ¬ 86400 < a.o) := by omega
          have HYES := Lib.hid (fun (q : a.o < -86400 ∨ 86400 < a.o) => (show whyV l F T = 2 from why_2 h1.out (any_yes (k := k) (by rw [HL.out]; exact hlt) (by rw [eA]; simpa using q))))
          have HNO := Lib.hid (fun (q : -86400 ≤ a.o ∧ a.o ≤ 86400) => (show ∀ j, j < k + 1 → -86400 ≤ (at_ l j).o ∧ (at_ l j).o ≤ 86400 from fun j hj => by
            by_cases e : j = k
            · subst e; rw [eA]; exact q
            · exact HA.out j (by omega)))
          clear eA
          rcases hcs with q1 | ⟨q1, q2⟩ | ⟨q1, q2⟩
          · have hE := Lib.hid (HYES.out (.inl q1))
            go_wp2_with (refine wpList_at_g rfl 40 _ rfl w.heap.size _ a.A rfl _ r1 Tryd.underlying40 rfl (by kernel_rfl) ?_)
            go_ret
            exact ⟨by rw [hE.out]; rfl, hb.alloc hb.size _⟩
          · have hE := Lib.hid (HYES.out (.inr q2))
            go_wp2_with (refine wpList_at_g rfl 40 _ rfl w.heap.size _ a.A rfl _ r1 Tryd.underlying40 rfl (by kernel_rfl) ?_)
            go_ret
            exact ⟨by rw [hE.out]; rfl, hb.alloc hb.size _⟩
          · have hN := Lib.hid (HNO.out ⟨by omega, by omega⟩)
            go_wp2_with (refine wpList_at_g rfl 40 _ rfl w.heap.size _ a.A rfl _ r1 Tryd.underlying40 rfl (by kernel_rfl) ?_)
            go_roundw
            case rel => exact ⟨k + 1, by go_num, by omega, hN.out, hb.alloc hb.size _⟩
            case measure => simp [intOf]; omega
        · obtain rfl : n = k := by omega
          have hlt' : ¬ (n : Int) < (n : Int) := by omega
          have hoff : ∀ j, j < n → -86400 ≤ (at_ l j).o ∧ (at_ l j).o ≤ 86400 := fun j hj => HA.out j (by omega)
          have h2 := Lib.hid (show farB l = false from any_none fun j hj => by have := hoff j (by rw [HL.out] at hj; omega); rw [decide_eq_false_iff_not]; omega)
          have HO := Lib.hid hoff; clear hoff HA
          by_cases h3 : 3 < n
          · have h3' : (3 : Int) < (n : Int) := by omega
            have hE := Lib.hid (why_3 (F := F) (T := T) h1.out h2.out (by rw [HL.out]; exact h3))
            go_wp2_with fail
            go_ret
            exact ⟨by rw [hE.out]; rfl, hb⟩
          · have h3' : ¬ (3 : Int) < (n : Int) := by omega
            have H3 := Lib.hid (show l.length ≤ 3 by rw [HL.out]; omega)
            clear h3
            obtain ⟨wb, rfl⟩ : ∃ wb : World, wb = wr := ⟨_, rfl⟩
            go_wp2_with fail
            go_loopw [48] (fun i wr => ∃ k : Nat, i = .int .i64 k ∧ k ≤ n ∧ (∀ i j, i < k → j < i → shfP (at_ l i) (at_ l j) = false) ∧ Below w.heap.size w wr) (fun i _ => n - (intOf i).toNat)
            case atStart => exact ⟨0, rfl, Nat.zero_le _, fun i j hj => absurd hj (Nat.not_lt_zero _), hb⟩
            case round =>
              clear hb hlt hlt' hk
              obtain ⟨k, rfl, hk, hall, hb⟩ := hrel
              have HA := Lib.hid hall; clear hall
              by_cases hlt : k < n
              · have hlt' : (k : Int) < (n : Int) := by omega
                obtain ⟨ad, rfl, r1⟩ := (hs.below hb).row hlt
                obtain ⟨a, eA⟩ : ∃ a, at_ l k = a := ⟨_, rfl⟩
                rw [eA] at r1
                obtain ⟨wc, rfl⟩ : ∃ wc : World, wc = wr := ⟨_, rfl⟩
                have hkc : (k : Int) ≤ (c : Int) := by omega
                have zc := Blk.new wc 40 #[.int .i64 a.f, .int .i64 a.o, .bool a.d]
                have hb2 := hb.alloc hb.size (.cells #[.int .i64 a.f, .int .i64 a.o, .bool a.d] 40)
                go_wp2_with (refine wpList_at_g rfl 40 _ rfl w.heap.size _ a.A rfl _ r1 Tryd.underlying40 rfl (by kernel_rfl) ?_)
                go_loopw [57] (fun i wr => ∃ j : Nat, i = .int .i64 j ∧ j ≤ k ∧ (∀ i, i < j → shfP a (at_ l i) = false) ∧ Below w.heap.size w wr ∧ Blk wr wc.heap.size 40 #[.int .i64 a.f, .int .i64 a.o, .bool a.d]) (fun i _ => k - (intOf i).toNat)
                case atStart => exact ⟨0, rfl, Nat.zero_le _, fun j hj => absurd hj (Nat.not_lt_zero _), hb2, zc⟩
                case round =>
                  clear hb2 zc r1
                  obtain ⟨j, rfl, hj, hin, hbi, zi⟩ := hrel
                  have HI := Lib.hid hin; clear hin
                  have z1 : wr.cell? ⟨wc.heap.size, 1, none⟩ = some (.int .i64 a.o) := zi.cell 1
                  have z2 : wr.cell? ⟨wc.heap.size, 2, none⟩ = some (.bool a.d) := zi.cell 2
                  have zlt : wc.heap.size < wr.heap.size := zi.lt
                  by_cases hjk : j < k
                  · have hjk' : (j : Int) < (k : Int) := by omega
                    have hjn : (j : Int) < (n : Int) := by omega
                    obtain ⟨ad', e, r2⟩ := (hs.below hbi).row (k := j) (by omega)
                    obtain rfl : ad = ad' := Option.some.inj e
                    obtain ⟨b, eB⟩ : ∃ b, at_ l j = b := ⟨_, rfl⟩
                    rw [eB] at r2
                    have zn := zi.alloc (.cells #[.int .i64 b.f, .int .i64 b.o, .bool b.d] 40)
                    have hbn := hbi.alloc hbi.size (.cells #[.int .i64 b.f, .int .i64 b.o, .bool b.d] 40)
                    have HYES := Lib.hid (fun (q : shfP a b = true) => (show whyV l F T = 4 from why_4 h1.out h2.out H3.out (shf_yes (i := k) (j := j) (by rw [HL.out]; exact hlt) hjk (by rw [eA, eB]; exact q))))
                    have HNO := Lib.hid (fun (q : shfP a b = false) => (show ∀ i, i < j + 1 → shfP a (at_ l i) = false from fun i hi => by
                      by_cases e : i = j
                      · subst e; rw [eB]; exact q
                      · exact HI.out i (by omega)))
                    clear eB
                    cases hd : a.d == b.d with
                    | false =>
                      have hN := Lib.hid (HNO.out (by unfold shfP; rw [hd]; rfl))
                      go_wp2_with (refine wpList_at_g rfl 40 _ rfl w.heap.size _ b.A rfl _ r2 Tryd.underlying40 rfl (by kernel_rfl) ?_)
                      go_roundw
                      case rel => exact ⟨j + 1, by go_num, by omega, hN.out, hbn, zn⟩
                      case measure => simp [intOf]; omega
                    | true =>
                      cases ho : a.o != b.o with
                      | false =>
                        have hN := Lib.hid (HNO.out (by unfold shfP; rw [hd, ho]; rfl))
                        go_wp2_with (refine wpList_at_g rfl 40 _ rfl w.heap.size _ b.A rfl _ r2 Tryd.underlying40 rfl (by kernel_rfl) ?_)
                        go_roundw
                        case rel => exact ⟨j + 1, by go_num, by omega, hN.out, hbn, zn⟩
                        case measure => simp [intOf]; omega
                      | true =>
                        have hE := Lib.hid (HYES.out (by unfold shfP; rw [hd, ho]; rfl))
                        go_wp2_with (refine wpList_at_g rfl 40 _ rfl w.heap.size _ b.A rfl _ r2 Tryd.underlying40 rfl (by kernel_rfl) ?_)
                        go_ret
                        exact ⟨by rw [hE.out]; rfl, hbn⟩
                  · obtain rfl : k = j := by omega
                    have hjk' : ¬ (k : Int) < (k : Int) := by omega
                    have hN := Lib.hid (show ∀ i j, i < k + 1 → j < i → shfP (at_ l i) (at_ l j) = false from fun i j hi hji => by
                      by_cases e : i = k
                      · subst e; rw [eA]; exact HI.out j hji
                      · exact HA.out i j (by omega) hji)
                    clear eA HI HA
                    go_wp2_with fail
                    go_roundw
                    case rel => exact ⟨k + 1, by go_num, by omega, hN.out, hbi⟩
                    case measure => simp [intOf]; omega
              · obtain rfl : n = k := by omega
                have hlt' : ¬ (n : Int) < (n : Int) := by omega
                have h4 := Lib.hid (show shfB l = false from shf_none fun i j hi hji => HA.out i j (by rw [HL.out] at hi; exact hi) hji)
                clear HA
                obtain ⟨wd, rfl⟩ : ∃ wd : World, wd = wr := ⟨_, rfl⟩
                go_wp2_with fail
                go_loopw [15] (fun i wr => ∃ k : Nat, i = .int .i64 (k + 1) ∧ (k = 0 ∨ k + 1 ≤ n) ∧ (∀ j, 1 ≤ j → j < k + 1 → F ≤ ccV l j ∧ ccV l j ≤ T) ∧ Below w.heap.size w wr) (fun i _ => n + 1 - (intOf i).toNat)
                case atStart => exact ⟨0, rfl, .inl rfl, fun j h1 hj => by omega, hb⟩
                case round =>
                  clear hb hlt hlt' hk
                  obtain ⟨k, rfl, hk, hall, hb⟩ := hrel
                  have HA := Lib.hid hall; clear hall
                  by_cases hlt : k + 1 < n
                  · have hlt' : (k : Int) + 1 < (n : Int) := by omega
                    obtain ⟨ad, rfl, r1⟩ := (hs.below hb).row (k := k) (by omega)
                    obtain ⟨ad', e, r2⟩ := (hs.below hb).row hlt
                    obtain rfl : ad = ad' := Option.some.inj e
                    have hfb := HF.out (k + 1) hlt
                    have hob := HO.out k (by omega)
                    have hcc := Lib.hid (show ccV l (k + 1) = (at_ l (k + 1)).f + (at_ l k).o from rfl)
                    have HYES := Lib.hid (fun (q : ccV l (k + 1) < F ∨ T < ccV l (k + 1)) => (show whyV l F T = 5 from why_5 h1.out h2.out H3.out h4.out (dat_yes (i := k + 1) (by omega) (by rw [HL.out]; exact hlt) q)))
                    have HNO := Lib.hid (fun (q : F ≤ ccV l (k + 1) ∧ ccV l (k + 1) ≤ T) => (show ∀ j, 1 ≤ j → j < k + 1 + 1 → F ≤ ccV l j ∧ ccV l j ≤ T from fun j j1 hj => by
                      by_cases e : j = k + 1
                      · subst e; exact q
                      · exact HA.out j j1 (by omega)))
                    obtain ⟨a, eA⟩ : ∃ a, at_ l k = a := ⟨_, rfl⟩
                    obtain ⟨b, eB⟩ : ∃ b, at_ l (k + 1) = b := ⟨_, rfl⟩
                    rw [eA] at r1 hob; rw [eB] at r2 hfb
                    have hcv := Lib.hid (show ccV l (k + 1) = b.f + a.o by rw [hcc.out, eA, eB])
                    clear eA eB HA hcc
                    obtain ⟨q10, q11, q12, q13, q14⟩ := SpAt.of r1
                    obtain ⟨q20, q21, q22, q23, q24⟩ := SpAt.of r2
                    have hsub : IntKind.i64.wrap (k : Int) = (k : Int) := by simp [IntKind.wrap, IntKind.bits, IntKind.signed]; omega
                    have hsum : IntKind.i64.wrap (b.f + a.o) = b.f + a.o := by simp [IntKind.wrap, IntKind.bits, IntKind.signed]; omega
                    have i1 : (0 : Int) ≤ (k : Int) + 1 := by omega
                    have i2 : ((k : Int) + 1).toNat = k + 1 := by omega
                    have i3 : (0 : Int) ≤ (k : Int) := by omega
                    have i4 : (k : Int) < (n : Int) := by omega
                    go_wp2_with fail
                    go_quiet ((go_at_call 0))
                    have hcs : b.f + a.o < F ∨ (¬ b.f + a.o < F ∧ T < b.f + a.o) ∨ (¬ b.f + a.o < F ∧ ¬ T < b.f + a.o) := by omega
                    clear q10 q11 q12 q13 q14 q20 q21 q22 q23 q24 hsub hsum
                    rcases hcs with q1 | ⟨q1, q2⟩ | ⟨q1, q2⟩
                    · have hE := Lib.hid (HYES.out (by rw [hcv.out]; omega))
                      go_wp2_with fail
                      go_ret
                      exact ⟨by rw [hE.out]; rfl, bdN hb _⟩
                    · have hE := Lib.hid (HYES.out (by rw [hcv.out]; omega))
                      go_wp2_with fail
                      go_ret
                      exact ⟨by rw [hE.out]; rfl, bdN hb _⟩
                    · have hN := Lib.hid (HNO.out (by rw [hcv.out]; omega))
                      go_wp2_with fail
                      go_roundw
                      case rel => exact ⟨k + 1, by go_num, by omega, hN.out, bdN hb _⟩
                      case measure => simp [intOf]; omega
                  · have hlt' : ¬ (k : Int) + 1 < (n : Int) := by omega
                    have hE := Lib.hid (why_0 (F := F) (T := T) h1.out h2.out H3.out h4.out (dat_none fun i i1 hi => HA.out i i1 (by rw [HL.out] at hi; omega)))
                    go_wp2_with fail
                    go_ret
                    exact ⟨by rw [hE.out]; rfl, hb⟩
end Go.Proofs.YtginidedeefcdaaDoor.Ft
