/-
  LOCAL: what the statements ask first (begins12), a table of one record, states compared, Small.
-/
import Derived.Test.YtefcjccapekjdaaDoorTbL
namespace Go.Proofs.YtefcjccapekjdaaDoor.Tb
open Go.ChangeShapes Go.WideShapes Go.ChangeAt Go.RowKit
open Go.Proofs.YtefcjccapekjdaaDoor
open Go.Proofs.YtefcjccapekjdaaDoor.Wd
open Go.Proofs.YtefcjccapekjdaaDoor.Rec
open Go.Proofs.YtefcjccapekjdaaDoor.Yr
open Go.Proofs.YtefcjccapekjdaaDoor.Clk (yrV yrE)
open Go.Proofs.YtefcjccapekjdaaDoor.Civ (Tab Inv)
set_option linter.unusedVariables false
theorem recs_one {w : World} {g : Nat} {t : TypeId} {r : Rc} (x : Blk w g t r.A) (B : r.Bd) : Recs w w.heap.size (some ⟨g, 0, none⟩) 1 [r] := by
  refine ⟨rfl, ⟨by rw [flat_len]; rfl, fun _ => ⟨_, rfl, x.lt, fun j u hu => ?_⟩⟩, fun r' hr => by rw [List.mem_singleton.1 hr]; exact B⟩
  have hj : j < 19 := by
    rcases Nat.lt_or_ge j 19 with h | h
    · exact h
    · rw [List.getElem?_eq_none (by rw [flat_len]; exact h)] at hu; cases hu
  have := flat_at [r] 0 j (show 0 < 1 by decide) hj
  rw [Nat.mul_zero, Nat.zero_add] at this
  rw [this] at hu
  have e : (⟨g, 0, none⟩ : Addr).add j = ⟨g, j, none⟩ := by unfold Addr.add; split <;> simp_all
  rw [e, x.cell]; exact hu
def eqT (o : Int) (k : Bool) (o' : Int) (k' : Bool) : Bool := o == o' && k == k'
theorem eqIn_sta (d : Nat) (o o' : Int) (k k' : Bool) (w : World) : (Op.equalIn (d + 2) 43 (stateV o k) (stateV o' k')).run Tryd.prog w = .ok (eqT o k o' k') w := by
  rw [run_equalIn_agg w (d + 1) _ (stA0 o k) (stA0 o' k') (by kernel_rfl) (by kernel_rfl)]
  go_simp
  unfold eqT
  by_cases h : o = o' <;> cases k <;> cases k' <;> simp [h]
theorem eq_sta (o o' : Int) (k k' : Bool) (w : World) : (binOp .eql 43 (stateV o k) (stateV o' k')).run Tryd.prog w = .ok (.bool (eqT o k o' k')) w := by
  rw [run_eql_struct, eqIn_sta 9998]; rfl
set_option maxRecDepth 20000 in
theorem small_any (F L : Int) (A : Option Addr) (n m : Nat) (w : World) (hm : n ≤ maxLen) :
    Calls Tryd.prog 28 #[tbV F L A n m] w fun e w' => e = .returned (.int .i64 (if n ≤ 60 then 1 else 0)) ∧ Below w.heap.size w w' := by
  have hb := (Below.refl w.heap.size w).alloc (Nat.le_refl _) (.cells (tbA F L A n m) 40)
  by_cases h : n ≤ 60
  · have h2 : ¬ (60 : Int) < n := by omega
    rw [if_pos h]
    go_enter Tryd.func28, Tryd.ntmps28
    go_wp2
    go_ret
    exact ⟨rfl, hb⟩
  · have h2 : (60 : Int) < n := by omega
    rw [if_neg h]
    go_enter Tryd.func28, Tryd.ntmps28
    go_wp2
    go_ret
    exact ⟨rfl, hb⟩
abbrev rcX : Rc := ⟨60, 0, 0, St.nil, St.nil⟩
theorem rcX_bd : rcX.Bd := by
  refine ⟨by decide, by decide, by decide, ?_, ?_⟩ <;> exact ⟨by decide, by decide, by decide, by decide, by decide, by decide, by decide, by decide⟩
theorem x_to {g B : Nat} {w : World} (hT : Tab w) (hR : Recs w B (some ⟨g, 0, none⟩) 1 [rcX]) (hB : B ≤ w.heap.size) :
    Calls Tryd.prog 30 #[tbV 2000 2000 (some ⟨g, 0, none⟩) 1 1, .int .i64 0] w fun e w' => e = .returned (.tuple #[.int .i64 (-3600), stateV (-3600) false, .int .i64 0]) ∧ Below w.heap.size w w' := by
  have := to_any 2000 2000 (some ⟨g, 0, none⟩) 1 1 B [rcX] 0 w hT hR hB (by decide) (by decide)
  rwa [show toC 2000 2000 [rcX] 0 = -3600 by decide +kernel, show tOff 2000 2000 [rcX] 0 = -3600 by decide +kernel, show tSum 2000 2000 [rcX] 0 = false by decide +kernel, show atE 2000 2000 [rcX] 0 = 0 by decide +kernel] at this
theorem x_chk {g B : Nat} {w : World} (hT : Tab w) (hR : Recs w B (some ⟨g, 0, none⟩) 1 [rcX]) (hB : B ≤ w.heap.size) :
    Calls Tryd.prog 45 #[tbV 2000 2000 (some ⟨g, 0, none⟩) 1 1] w fun e w' => e = .returned (.int .i64 0) ∧ Below w.heap.size w w' := by
  have := check_any 2000 2000 (some ⟨g, 0, none⟩) 1 1 B [rcX] w hT hR hB (by decide)
  rwa [show tbE 2000 2000 [rcX] = 0 by decide +kernel] at this
set_option maxRecDepth 20000 in
set_option maxHeartbeats 3200000 in
attribute [-go_sem] run_eql_struct in
theorem begins12_any (w : World) (hT : Tab w) :
    Calls Tryd.prog 51 #[] w fun e w' => e = .returned (.bool true) ∧ Below w.heap.size w w' := by
  have i0 := Civ.Inv.start hT
  have i1 := (i0.alloc (.cells rcX.A 26)).alloc (.cells (tbA 2000 2000 (some ⟨w.heap.size, 0, none⟩) 1 1) 40)
  have x0 := (Blk.new w 26 rcX.A).alloc (.cells (tbA 2000 2000 (some ⟨w.heap.size, 0, none⟩) 1 1) 40)
  have t0 := blk_at (w.alloc (.cells rcX.A 26)) 40 (tbA 2000 2000 (some ⟨w.heap.size, 0, none⟩) 1 1) (sz1 _ _ rfl)
  have hR := recs_one x0 rcX_bd
  have hq := eq_sta (-3600) (-3600) false false
  rw [show eqT (-3600) false (-3600) false = true by decide] at hq
  have hto := x_to i1.1 hR (Nat.le_refl _)
  go_enter Tryd.func51, Tryd.ntmps51
  go_wp2_with fail
  refine hto.mono ?_; rintro e w1 ⟨rfl, hb1⟩
  have i2 := (i1.call hb1).alloc (.cells (stA0 (-3600) false) 43)
  have t1 := (t0.below hb1 t0.lt).alloc (.cells (stA0 (-3600) false) 43)
  have s1 := Blk.new w1 43 (stA0 (-3600) false)
  have hR1 := (hR.below hb1).below ((Below.refl w1.heap.size w1).alloc (Nat.le_refl _) (.cells (stA0 (-3600) false) 43) |>.mono hb1.size)
  have hch := x_chk i2.1 hR1 (Nat.le_trans hb1.size (by rw [sz1 w1 _ rfl]; exact Nat.le_succ _))
  clear hto i1 hR hR1 hb1 x0 t0 i0
  go_wp2_with (first | refine wpList_store_new rfl 43 _ _ rfl rfl w1.heap.size (stA0 (-3600) false) rfl rfl _ (stA0 0 false) w1 rfl rfl rfl (by kernel_rfl) (by kernel_rfl) ?_ | refine wpList_row_g rfl 43 _ rfl _ rfl _ _ _ _ s1 Tryd.underlying43 rfl (by kernel_rfl) ?_ | refine wpList_row_g rfl 40 _ rfl _ rfl _ _ _ _ t1 Tryd.underlying40 rfl (by kernel_rfl) ?_)
  refine hch.mono ?_; rintro e w2 ⟨rfl, hb2⟩
  have i3 := i2.call hb2
  clear hch s1 t1 i2 hb2
  go_wp2_with fail
  go_ret
  exact ⟨rfl, i3.2⟩
end Go.Proofs.YtefcjccapekjdaaDoor.Tb
