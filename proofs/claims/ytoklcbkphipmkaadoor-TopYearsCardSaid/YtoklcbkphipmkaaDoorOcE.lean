/-
  WHAT IS SOUGHT, AND THE PLACE IN A YEAR UP TO WHICH IT IS: walked.
-/
import Derived.Test.YtoklcbkphipmkaaDoorOcD
namespace Go.Proofs.YtoklcbkphipmkaaDoor.Oc
open Go.ChangeShapes Go.WideShapes Go.ChangeAt Go.RowKit
open Go.Proofs.YtoklcbkphipmkaaDoor
open Go.Proofs.YtoklcbkphipmkaaDoor.Wd
open Go.Proofs.YtoklcbkphipmkaaDoor.Sr
open Go.Proofs.YtoklcbkphipmkaaDoor.Sl
open Go.Proofs.YtoklcbkphipmkaaDoor.Va (bal bcl)
set_option linter.unusedVariables false
set_option linter.unusedSimpArgs false
theorem still_at {P : Program} {ops : Array Oper} {rest : List Oper} {o : Oper} {a : Act} {w : World} {Q : Act → Prop} (hw : Region.wanted o (yielded ops a.tmps) = true) (ty : TypeId) (x : Operand) (ho : o.op = .load ty x)
    (B : Nat) (p : Addr) (cs : Array Value) (hx : a.eval x = .pointer (some p)) (d : TypeDesc) (hr : Row w B p cs)
    (hu : P.underlying ty = some d) (hd : (match d with | .struct _ | .array _ _ => true | _ => false) = true) (hi : (P.info? ty).map (·.size) = some cs.size)
    (h : wpStill P ops w Q rest (a.put o.dst (.agg cs))) : wpStill P ops w Q (o :: rest) a := by
  unfold wpStill
  rw [if_pos hw]
  unfold Oper.still execOp
  simp only [ho, hx, Instr.loadAt, Instr.sureAddr, Sem.run_bind, Sem.run_pure, Result.andThen_ok, run_loadVar_at w B p ty cs d hr hu hd hi]
  exact ⟨rfl, h⟩
theorem row_blk {w : World} {g : Nat} {t : TypeId} {cs : Array Value} (x : Blk w g t cs) : Row w w.heap.size ⟨g, 0, none⟩ cs := by
  refine ⟨x.lt, fun j v hv => ?_⟩
  have e : (⟨g, 0, none⟩ : Addr).add j = ⟨g, j, none⟩ := by unfold Addr.add; split <;> simp_all
  rw [e, x.cell]; exact hv
set_option maxRecDepth 100000 in
set_option maxHeartbeats 3200000 in
theorem sot_any (rs : List Ru) (z e : Pe) (h : Nat) (w : World) (x : Blk w h 80 (evC rs z)) :
    Calls Tryd.prog 37 #[.agg (evC rs e), .pointer (some ⟨h, 0, none⟩)] w fun r w' => r = .returned (.bool (decide (ordV rs e z < 0))) ∧ Below w.heap.size w w' := by
  have b0 := bal (Below.refl _ w) (.cells (evC rs e) 80)
  have y0 := Blk.new w 80 (evC rs e)
  have x0 := x.alloc (.cells (evC rs e) 80)
  have ho := order_b rs e z (w.alloc (.cells (evC rs e) 80))
  generalize ordV rs e z = o at *
  go_enter Tryd.func37, Tryd.ntmps37
  go_upto_region 1 with fail
  generalize w.alloc (.cells (evC rs e) 80) = W at *
  go_wp2_with (first | (refine wpList_row_g rfl 80 _ rfl _ rfl _ _ _ _ y0 Tryd.underlying80 rfl (by kernel_rfl) ?_) | (refine wpList_row_g rfl 80 _ rfl _ rfl _ _ _ _ x0 Tryd.underlying80 rfl (by kernel_rfl) ?_) | (go_at_call 28; refine ho.mono ?_; rintro r w2 ⟨rfl, hb⟩))
  go_ret
  exact ⟨rfl, bcl b0 hb⟩
set_option maxRecDepth 100000 in
set_option maxHeartbeats 3200000 in
theorem sol_any (rs : List Ru) (z : Int) (e : Pe) (h : Nat) (w : World) (x : Blk w h 2 #[.int .i64 z]) :
    Calls Tryd.prog 33 #[.agg (evC rs e), .pointer (some ⟨h, 0, none⟩)] w fun r w' => r = .returned (.bool (decide (rT rs e < z))) ∧ Below w.heap.size w w' := by
  have b0 := bal (Below.refl _ w) (.cells (evC rs e) 80)
  have y0 : (w.alloc (.cells (evC rs e) 80)).cell? ⟨w.heap.size, 0, none⟩ = some (.int .i64 (rT rs e)) := (Blk.new w 80 (evC rs e)).cell 0
  have x0 : (w.alloc (.cells (evC rs e) 80)).cell? ⟨h, 0, none⟩ = some (.int .i64 z) := (x.alloc (.cells (evC rs e) 80)).cell 0
  generalize rT rs e = o at y0 ⊢
  go_enter Tryd.func33, Tryd.ntmps33
  go_upto_region 1 with fail
  generalize w.alloc (.cells (evC rs e) 80) = W at *
  go_wp2_with fail
  go_ret
  exact ⟨rfl, b0⟩
set_option maxRecDepth 100000 in
set_option maxHeartbeats 3200000 in
theorem clt_any (A : Option Addr) (n c k : Nat) (L : List Pe) (rs : List Ru) (z : Pe) (h g b B : Nat) (w : World) (hs : Sls (evC rs) 7 w B A n L) (hk : k < n)
    (x : Blk w b 73 #[.slice A n c]) (y : Blk w g 91 #[.func (.func 37) #[] #[.pointer (some ⟨h, 0, none⟩)]]) (u : Blk w h 80 (evC rs z)) :
    Calls Tryd.prog 56 #[.int .i64 k, .pointer (some ⟨g, 0, none⟩), .pointer (some ⟨b, 0, none⟩)] w fun r w' => r = .returned (.bool (!(decide (ordV rs (L.getD k (0, 0)) z < 0)))) ∧ Below w.heap.size w w' := by
  obtain ⟨ad, rfl, r1⟩ := hs.row (fun _ => rfl) (0, 0) hk
  obtain ⟨e, he⟩ : ∃ e, L.getD k (0, 0) = e := ⟨_, rfl⟩
  rw [he] at r1
  rw [he]
  have c0 : w.cell? ⟨b, 0, none⟩ = some (.slice (some ad) n c) := x.cell 0
  have c1 : w.cell? ⟨g, 0, none⟩ = some (.func (.func 37) #[] #[.pointer (some ⟨h, 0, none⟩)]) := y.cell 0
  have hc := sot_any rs z e h w.drew u.drew
  have i4 : (k : Int) < (n : Int) := by omega
  generalize (decide (ordV rs e z < 0)) = o at *
  clear he
  go_enter Tryd.func56, Tryd.ntmps56
  go_upto_region 1 with fail
  go_still_tail 5, (by kernel_rfl)
  refine still_at rfl 80 _ rfl B _ (evC rs e) rfl _ r1 Tryd.underlying80 rfl (by kernel_rfl) ?_
  refine wpStill_nil ?_
  change wpList _ _ _ _ _ w.drew
  go_wp2_with fail
  refine hc.mono ?_; rintro r w2 ⟨rfl, hb⟩
  have b2 : Below w.heap.size w w2 := (Below.refl _ w).drew.trans hb
  clear hc
  go_wp2_with fail
  go_ret
  exact ⟨rfl, b2⟩
set_option maxRecDepth 20000 in
set_option maxHeartbeats 3200000 in
theorem set_any (A : Option Addr) (n c : Nat) (L : List Pe) (rs : List Ru) (z : Pe) (h g b : Nat) (w : World) (hs : Sls (evC rs) 7 w w.heap.size A n L) (hm : n ≤ 1000)
    (x : Blk w b 73 #[.slice A n c]) (y : Blk w g 91 #[.func (.func 37) #[] #[.pointer (some ⟨h, 0, none⟩)]]) (u : Blk w h 80 (evC rs z)) (hmo : Hid (∀ i j, i ≤ j → j < n → (decide (ordV rs (L.getD j (0, 0)) z < 0)) = true → (decide (ordV rs (L.getD i (0, 0)) z < 0)) = true)) :
    Calls Tryd.prog 55 #[.int .i64 n, .func (.func 56) #[] #[.pointer (some ⟨g, 0, none⟩), .pointer (some ⟨b, 0, none⟩)]] w fun e w' => (∃ k : Nat, e = .returned (.int .i64 k) ∧ k ≤ n ∧ (∀ j, j < k → (decide (ordV rs (L.getD j (0, 0)) z < 0)) = true) ∧ (∀ j, k ≤ j → j < n → (decide (ordV rs (L.getD j (0, 0)) z < 0)) = false)) ∧ Below w.heap.size w w' := by
  go_enter Tryd.func55, Tryd.ntmps55
  go_wp2_with fail
  go_loopw [5, 6] (fun i j wr => ∃ a b : Nat, i = .int .i64 a ∧ j = .int .i64 b ∧ a ≤ b ∧ b ≤ n ∧ (∀ j, j < a → (decide (ordV rs (L.getD j (0, 0)) z < 0)) = true) ∧ (∀ j, b ≤ j → j < n → (decide (ordV rs (L.getD j (0, 0)) z < 0)) = false) ∧ Below w.heap.size w wr) (fun i j _ => (intOf j - intOf i).toNat)
  case atStart => exact ⟨0, n, rfl, rfl, Nat.zero_le _, Nat.le_refl _, fun j hj => absurd hj (Nat.not_lt_zero _), fun j hj hj2 => by omega, Below.refl _ _⟩
  case round =>
    obtain ⟨a, b', rfl, rfl, hab, hbn, hlo, hhi, hb⟩ := hrel
    by_cases hlt : a < b'
    · have hlt' : (a : Int) < (b' : Int) := by omega
      obtain ⟨m, hmm⟩ : ∃ m : Nat, (a + b') / 2 = m := ⟨_, rfl⟩
      have hmI : ((a : Int) + (b' : Int)) / 2 = (m : Int) := by omega
      have ham : a ≤ m ∧ m < b' := by omega
      have hc := clt_any A n c m L rs z h g b w.heap.size wr (hs.below hb) (by omega) (x.below hb x.lt) (y.below hb y.lt) (u.below hb u.lt)
      have HLO := Lib.hid hlo; have HHI := Lib.hid hhi
      clear hlo hhi
      cases hf : (decide (ordV rs (L.getD m (0, 0)) z < 0)) with
      | false =>
        have HH := Lib.hid (show ∀ j, m ≤ j → j < n → (decide (ordV rs (L.getD j (0, 0)) z < 0)) = false from by
          intro j h1 h2
          cases hq : (decide (ordV rs (L.getD j (0, 0)) z < 0)) with
          | false => rfl
          | true => have h3 := hmo.out m j h1 h2 hq; rw [hf] at h3; exact h3.symm)
        rw [hf] at hc
        clear hf
        go_wp2_with fail
        refine hc.mono ?_; rintro e w2 ⟨rfl, hb2⟩
        have B2 := hb.trans (hb2.mono hb.size)
        clear hc
        go_wp2_with fail
        go_roundw
        case rel => exact ⟨a, m, rfl, rfl, ham.1, by omega, HLO.out, HH.out, B2⟩
        case measure => simp [intOf]; omega
      | true =>
        have HF := Lib.hid hf
        rw [hf] at hc
        clear hf
        go_wp2_with fail
        refine hc.mono ?_; rintro e w2 ⟨rfl, hb2⟩
        have B2 := hb.trans (hb2.mono hb.size)
        clear hc
        go_wp2_with fail
        go_roundw
        case rel => exact ⟨m + 1, b', by go_num, rfl, by omega, hbn, fun j h1 => hmo.out j m (by omega) (by omega) HF.out, HHI.out, B2⟩
        case measure => simp [intOf]; omega
    · obtain rfl : a = b' := by omega
      have hlt' : ¬ (a : Int) < (a : Int) := by omega
      have HLO := Lib.hid hlo; have HHI := Lib.hid hhi
      clear hlo hhi
      go_wp2_with fail
      go_ret
      exact ⟨⟨a, rfl, hbn, by simpa using HLO.out, by simpa using HHI.out⟩, hb⟩
set_option maxRecDepth 100000 in
set_option maxHeartbeats 3200000 in
theorem cll_any (A : Option Addr) (n c k : Nat) (L : List Pe) (rs : List Ru) (z : Int) (h g b B : Nat) (w : World) (hs : Sls (evC rs) 7 w B A n L) (hk : k < n)
    (x : Blk w b 73 #[.slice A n c]) (y : Blk w g 91 #[.func (.func 33) #[] #[.pointer (some ⟨h, 0, none⟩)]]) (u : Blk w h 2 #[.int .i64 z]) :
    Calls Tryd.prog 56 #[.int .i64 k, .pointer (some ⟨g, 0, none⟩), .pointer (some ⟨b, 0, none⟩)] w fun r w' => r = .returned (.bool (!(decide (rT rs (L.getD k (0, 0)) < z)))) ∧ Below w.heap.size w w' := by
  obtain ⟨ad, rfl, r1⟩ := hs.row (fun _ => rfl) (0, 0) hk
  obtain ⟨e, he⟩ : ∃ e, L.getD k (0, 0) = e := ⟨_, rfl⟩
  rw [he] at r1
  rw [he]
  have c0 : w.cell? ⟨b, 0, none⟩ = some (.slice (some ad) n c) := x.cell 0
  have c1 : w.cell? ⟨g, 0, none⟩ = some (.func (.func 33) #[] #[.pointer (some ⟨h, 0, none⟩)]) := y.cell 0
  have hc := sol_any rs z e h w.drew u.drew
  have i4 : (k : Int) < (n : Int) := by omega
  generalize (decide (rT rs e < z)) = o at *
  clear he
  go_enter Tryd.func56, Tryd.ntmps56
  go_upto_region 1 with fail
  go_still_tail 5, (by kernel_rfl)
  refine still_at rfl 80 _ rfl B _ (evC rs e) rfl _ r1 Tryd.underlying80 rfl (by kernel_rfl) ?_
  refine wpStill_nil ?_
  change wpList _ _ _ _ _ w.drew
  go_wp2_with fail
  refine hc.mono ?_; rintro r w2 ⟨rfl, hb⟩
  have b2 : Below w.heap.size w w2 := (Below.refl _ w).drew.trans hb
  clear hc
  go_wp2_with fail
  go_ret
  exact ⟨rfl, b2⟩
set_option maxRecDepth 20000 in
set_option maxHeartbeats 3200000 in
theorem sel_any (A : Option Addr) (n c : Nat) (L : List Pe) (rs : List Ru) (z : Int) (h g b : Nat) (w : World) (hs : Sls (evC rs) 7 w w.heap.size A n L) (hm : n ≤ 1000)
    (x : Blk w b 73 #[.slice A n c]) (y : Blk w g 91 #[.func (.func 33) #[] #[.pointer (some ⟨h, 0, none⟩)]]) (u : Blk w h 2 #[.int .i64 z]) (hmo : Hid (∀ i j, i ≤ j → j < n → (decide (rT rs (L.getD j (0, 0)) < z)) = true → (decide (rT rs (L.getD i (0, 0)) < z)) = true)) :
    Calls Tryd.prog 55 #[.int .i64 n, .func (.func 56) #[] #[.pointer (some ⟨g, 0, none⟩), .pointer (some ⟨b, 0, none⟩)]] w fun e w' => (∃ k : Nat, e = .returned (.int .i64 k) ∧ k ≤ n ∧ (∀ j, j < k → (decide (rT rs (L.getD j (0, 0)) < z)) = true) ∧ (∀ j, k ≤ j → j < n → (decide (rT rs (L.getD j (0, 0)) < z)) = false)) ∧ Below w.heap.size w w' := by
  go_enter Tryd.func55, Tryd.ntmps55
  go_wp2_with fail
  go_loopw [5, 6] (fun i j wr => ∃ a b : Nat, i = .int .i64 a ∧ j = .int .i64 b ∧ a ≤ b ∧ b ≤ n ∧ (∀ j, j < a → (decide (rT rs (L.getD j (0, 0)) < z)) = true) ∧ (∀ j, b ≤ j → j < n → (decide (rT rs (L.getD j (0, 0)) < z)) = false) ∧ Below w.heap.size w wr) (fun i j _ => (intOf j - intOf i).toNat)
  case atStart => exact ⟨0, n, rfl, rfl, Nat.zero_le _, Nat.le_refl _, fun j hj => absurd hj (Nat.not_lt_zero _), fun j hj hj2 => by omega, Below.refl _ _⟩
  case round =>
    obtain ⟨a, b', rfl, rfl, hab, hbn, hlo, hhi, hb⟩ := hrel
    by_cases hlt : a < b'
    · have hlt' : (a : Int) < (b' : Int) := by omega
      obtain ⟨m, hmm⟩ : ∃ m : Nat, (a + b') / 2 = m := ⟨_, rfl⟩
      have hmI : ((a : Int) + (b' : Int)) / 2 = (m : Int) := by omega
      have ham : a ≤ m ∧ m < b' := by omega
      have hc := cll_any A n c m L rs z h g b w.heap.size wr (hs.below hb) (by omega) (x.below hb x.lt) (y.below hb y.lt) (u.below hb u.lt)
      have HLO := Lib.hid hlo; have HHI := Lib.hid hhi
      clear hlo hhi
      cases hf : (decide (rT rs (L.getD m (0, 0)) < z)) with
      | false =>
        have HH := Lib.hid (show ∀ j, m ≤ j → j < n → (decide (rT rs (L.getD j (0, 0)) < z)) = false from by
          intro j h1 h2
          cases hq : (decide (rT rs (L.getD j (0, 0)) < z)) with
          | false => rfl
          | true => have h3 := hmo.out m j h1 h2 hq; rw [hf] at h3; exact h3.symm)
        rw [hf] at hc
        clear hf
        go_wp2_with fail
        refine hc.mono ?_; rintro e w2 ⟨rfl, hb2⟩
        have B2 := hb.trans (hb2.mono hb.size)
        clear hc
        go_wp2_with fail
        go_roundw
        case rel => exact ⟨a, m, rfl, rfl, ham.1, by omega, HLO.out, HH.out, B2⟩
        case measure => simp [intOf]; omega
      | true =>
        have HF := Lib.hid hf
        rw [hf] at hc
        clear hf
        go_wp2_with fail
        refine hc.mono ?_; rintro e w2 ⟨rfl, hb2⟩
        have B2 := hb.trans (hb2.mono hb.size)
        clear hc
        go_wp2_with fail
        go_roundw
        case rel => exact ⟨m + 1, b', by go_num, rfl, by omega, hbn, fun j h1 => hmo.out j m (by omega) (by omega) HF.out, HHI.out, B2⟩
        case measure => simp [intOf]; omega
    · obtain rfl : a = b' := by omega
      have hlt' : ¬ (a : Int) < (a : Int) := by omega
      have HLO := Lib.hid hlo; have HHI := Lib.hid hhi
      clear hlo hhi
      go_wp2_with fail
      go_ret
      exact ⟨⟨a, rfl, hbn, by simpa using HLO.out, by simpa using HHI.out⟩, hb⟩
end Go.Proofs.YtoklcbkphipmkaaDoor.Oc
