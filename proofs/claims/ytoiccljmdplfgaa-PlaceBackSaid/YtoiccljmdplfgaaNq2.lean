/-
  solsticelaw42.Small: few places, and short: walked.
-/
import Derived.Test.YtoiccljmdplfgaaNq1
namespace Go.Proofs.Ytoiccljmdplfgaa.Nr
open Go.ChangeShapes Go.WideShapes Go.ChangeAt Go.RowKit Go.Shelf
open Go.Proofs.Ytoiccljmdplfgaa
open Go.Proofs.Ytoiccljmdplfgaa.Wd
open Go.Proofs.Ytoiccljmdplfgaa.Pl
open Go.Proofs.Ytoiccljmdplfgaa.Nv
open Go.Proofs.Ytoiccljmdplfgaa.Ar
set_option linter.unusedVariables false
set_option linter.unusedSimpArgs false
/-- few and short -/
def Few (L : List Pc) : Prop := L.length ≤ 60 ∧ ∀ k, k < L.length → (pc_ L k).t.size ≤ 1000 ∧ (pc_ L k).z.size ≤ 1000
def Sm2 (L : List Pc) (w : World) (e : Ending) (w' : World) : Prop := ((e = .returned (.int .i64 0)) ∨ (e = .returned (.int .i64 1) ∧ Few L)) ∧ Below w.heap.size w w'
set_option maxRecDepth 20000 in
set_option maxHeartbeats 3200000 in
theorem small42_any (A : Option Addr) (n c : Nat) (L : List Pc) (w : World) (hR : Pcs w w.heap.size A n L) (hm : n ≤ maxLen) :
    Calls Try.prog 36 #[.slice A n c] w (Sm2 L w) := by
  have hll := hR.len
  unfold maxLen at hm
  go_enter Try.func36, Try.ntmps36
  go_wp2_with fail
  go_loopw [7] (fun i w' => ∃ k : Nat, i = .int .i64 k ∧ k ≤ n ∧ k ≤ 60 ∧ (∀ j, j < k → (pc_ L j).t.size ≤ 1000 ∧ (pc_ L j).z.size ≤ 1000) ∧ BI w w') (fun i _ => n - (intOf i).toNat)
  case atStart => exact ⟨0, rfl, Nat.zero_le _, Nat.zero_le _, fun _ h => absurd h (Nat.not_lt_zero _), BI.start w⟩
  case round =>
    obtain ⟨k, rfl, hk, hk20, hall, hb⟩ := hrel
    have HA := Lib.hid hall; clear hall
    by_cases hlt : k < n
    · have hlt' : (k : Int) < (n : Int) := by omega
      obtain ⟨ad, rfl, hrow⟩ := (hR.below hb.b).row hlt
      have hbd := hR.p _ (pc_mem (show k < L.length by omega))
      have HS := Lib.hid (fun (q : (pc_ L k).t.size ≤ 1000 ∧ (pc_ L k).z.size ≤ 1000) => (show ∀ j, j < k + 1 → (pc_ L j).t.size ≤ 1000 ∧ (pc_ L j).z.size ≤ 1000 from fun j hj => by
        by_cases e : j = k
        · subst e; exact q
        · exact HA.out j (by omega)))
      generalize pc_ L k = a at *
      unfold maxLen at hbd
      have hb1 := hb.alloc (.cells a.C 67)
      have x1 := Blk.new wr 67 a.C
      have d0 : (wr.alloc (.cells a.C 67)).cell? ⟨wr.heap.size, 0, none⟩ = some (.string a.t) := x1.cell 0
      have d3 : (wr.alloc (.cells a.C 67)).cell? ⟨wr.heap.size, 3, none⟩ = some (.string a.z) := x1.cell 3
      by_cases g0 : k = 60
      · have gb : ((k : Int) == 60) = true := by simp [g0]
        clear HS HA g0
        go_wp2_with (first | refine wpList_at_g rfl 67 _ rfl w.heap.size _ a.C rfl _ hrow Try.underlying67 rfl (by kernel_rfl) ?_ | refine wpList_store_new rfl 67 _ _ rfl rfl wr.heap.size a.C rfl rfl _ ZP wr rfl rfl rfl (by kernel_rfl) (by kernel_rfl) ?_)
        go_ret
        exact ⟨.inl rfl, hb1⟩
      · have gb : ((k : Int) == 60) = false := by simp; omega
        by_cases g1 : (1000 : Int) < (a.t.size : Int)
        · clear HS HA g0
          go_wp2_with (first | refine wpList_at_g rfl 67 _ rfl w.heap.size _ a.C rfl _ hrow Try.underlying67 rfl (by kernel_rfl) ?_ | refine wpList_store_new rfl 67 _ _ rfl rfl wr.heap.size a.C rfl rfl _ ZP wr rfl rfl rfl (by kernel_rfl) (by kernel_rfl) ?_)
          go_ret
          exact ⟨.inl rfl, hb1⟩
        · by_cases g2 : (1000 : Int) < (a.z.size : Int)
          · clear HS HA g0
            go_wp2_with (first | refine wpList_at_g rfl 67 _ rfl w.heap.size _ a.C rfl _ hrow Try.underlying67 rfl (by kernel_rfl) ?_ | refine wpList_store_new rfl 67 _ _ rfl rfl wr.heap.size a.C rfl rfl _ ZP wr rfl rfl rfl (by kernel_rfl) (by kernel_rfl) ?_)
            go_ret
            exact ⟨.inl rfl, hb1⟩
          · have hN := Lib.hid (HS.out (by omega))
            have hk21 : k + 1 ≤ 60 := by omega
            clear HS HA g0
            go_wp2_with (first | refine wpList_at_g rfl 67 _ rfl w.heap.size _ a.C rfl _ hrow Try.underlying67 rfl (by kernel_rfl) ?_ | refine wpList_store_new rfl 67 _ _ rfl rfl wr.heap.size a.C rfl rfl _ ZP wr rfl rfl rfl (by kernel_rfl) (by kernel_rfl) ?_)
            go_roundw
            case rel => exact ⟨k + 1, by go_num, by omega, hk21, hN.out, hb1⟩
            case measure => simp [intOf]; omega
    · obtain rfl : k = n := by omega
      have hlt' : ¬ (k : Int) < (k : Int) := by omega
      have HF := Lib.hid (show Few L from ⟨by omega, fun j hj => HA.out j (by omega)⟩)
      clear HA
      go_wp2_with fail
      go_ret
      exact ⟨.inr ⟨rfl, HF.out⟩, hb⟩
end Go.Proofs.Ytoiccljmdplfgaa.Nr
