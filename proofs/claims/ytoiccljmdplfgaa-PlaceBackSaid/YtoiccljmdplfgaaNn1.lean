/-
  solsticelaw42.Small: few places, and short: walked.
-/
import Derived.Test.YtoiccljmdplfgaaNq2
namespace Go.Proofs.Ytoiccljmdplfgaa.Nr
open Go.ChangeShapes Go.WideShapes Go.ChangeAt Go.RowKit Go.Shelf
open Go.Proofs.Ytoiccljmdplfgaa
open Go.Proofs.Ytoiccljmdplfgaa.Wd
open Go.Proofs.Ytoiccljmdplfgaa.Pl
open Go.Proofs.Ytoiccljmdplfgaa.Nv
open Go.Proofs.Ytoiccljmdplfgaa.Ar
set_option linter.unusedVariables false
set_option linter.unusedSimpArgs false
def fwB (L : List Pc) : Bool := decide (L.length ≤ 60) && L.all fun a => decide (a.t.size ≤ 1000 ∧ a.z.size ≤ 1000)
theorem fw_no {L : List Pc} {k : Nat} (hk : k < L.length) (h : ¬ ((pc_ L k).t.size ≤ 1000 ∧ (pc_ L k).z.size ≤ 1000)) : fwB L = false := by
  unfold fwB
  rw [show (L.all fun a => decide (a.t.size ≤ 1000 ∧ a.z.size ≤ 1000)) = false from List.all_eq_false.2 ⟨_, pc_mem hk, by rw [decide_eq_false h]; decide⟩, Bool.and_false]
theorem fw_60 {L : List Pc} (h : 60 < L.length) : fwB L = false := by unfold fwB; rw [decide_eq_false (by omega)]; rfl
theorem fw_yes {L : List Pc} (h : L.length ≤ 60) (h2 : ∀ k, k < L.length → (pc_ L k).t.size ≤ 1000 ∧ (pc_ L k).z.size ≤ 1000) : fwB L = true := by
  unfold fwB
  rw [decide_eq_true h, Bool.true_and, List.all_eq_true]
  intro a ha
  obtain ⟨k, hk, e⟩ := List.getElem_of_mem ha
  have := h2 k hk
  rw [show pc_ L k = a by show L.getD k _ = _; rw [List.getD_eq_getElem?_getD, List.getElem?_eq_getElem hk, ← e]; rfl] at this
  exact decide_eq_true this
theorem fw_few {L : List Pc} (h : fwB L = true) : L.length ≤ 60 := by
  unfold fwB at h; rw [Bool.and_eq_true] at h; exact of_decide_eq_true h.1
set_option maxRecDepth 20000 in
set_option maxHeartbeats 3200000 in
theorem small42_det (A : Option Addr) (n c : Nat) (L : List Pc) (w : World) (hR : Pcs w w.heap.size A n L) (hm : n ≤ maxLen) :
    Calls Try.prog 36 #[.slice A n c] w fun e w' => e = .returned (.int .i64 (if fwB L = true then 1 else 0)) ∧ Below w.heap.size w w' := by
  have hll := hR.len
  unfold maxLen at hm
  obtain ⟨E, hE⟩ : ∃ E : Int, (if fwB L = true then (1 : Int) else 0) = E := ⟨_, rfl⟩
  have HE1 := Lib.hid (fun (h : fwB L = true) => (show E = 1 by rw [← hE, h]; rfl))
  have HE0 := Lib.hid (fun (h : fwB L = false) => (show E = 0 by rw [← hE, h]; rfl))
  rw [hE]; clear hE
  go_enter Try.func36, Try.ntmps36
  go_wp2_with fail
  go_loopw [7] (fun i w' => ∃ k : Nat, i = .int .i64 k ∧ k ≤ n ∧ k ≤ 60 ∧ (∀ j, j < k → (pc_ L j).t.size ≤ 1000 ∧ (pc_ L j).z.size ≤ 1000) ∧ BI w w') (fun i _ => n - (intOf i).toNat)
  case atStart => exact ⟨0, rfl, Nat.zero_le _, Nat.zero_le _, fun _ h => absurd h (Nat.not_lt_zero _), BI.start w⟩
  case round =>
    obtain ⟨k, rfl, hk, hk20, hall, hb⟩ := hrel
    have HA := Lib.hid hall; clear hall
    by_cases hlt : k < n
    · have hlt' : (k : Int) < (n : Int) := by omega
      obtain ⟨ad, rfl, hrow⟩ := (hR.below hb.b).row hlt
      have hbd := hR.p _ (pc_mem (show k < L.length by omega))
      have HN := Lib.hid (fun h => HE0.out (fw_no (L := L) (k := k) (by omega) h))
      have H60 := Lib.hid (fun h => HE0.out (fw_60 (L := L) h))
      have HS := Lib.hid (fun (q : (pc_ L k).t.size ≤ 1000 ∧ (pc_ L k).z.size ≤ 1000) => (show ∀ j, j < k + 1 → (pc_ L j).t.size ≤ 1000 ∧ (pc_ L j).z.size ≤ 1000 from fun j hj => by
        by_cases e : j = k
        · subst e; exact q
        · exact HA.out j (by omega)))
      generalize pc_ L k = a at *
      unfold maxLen at hbd
      have hb1 := hb.alloc (.cells a.C 67)
      have x1 := Blk.new wr 67 a.C
      have d0 : (wr.alloc (.cells a.C 67)).cell? ⟨wr.heap.size, 0, none⟩ = some (.string a.t) := x1.cell 0
      have d3 : (wr.alloc (.cells a.C 67)).cell? ⟨wr.heap.size, 3, none⟩ = some (.string a.z) := x1.cell 3
      by_cases g0 : k = 60
      · have gb : ((k : Int) == 60) = true := by simp [g0]
        have hE := Lib.hid (H60.out (by omega))
        clear HS HA g0 HN H60
        go_wp2_with (first | refine wpList_at_g rfl 67 _ rfl w.heap.size _ a.C rfl _ hrow Try.underlying67 rfl (by kernel_rfl) ?_ | refine wpList_store_new rfl 67 _ _ rfl rfl wr.heap.size a.C rfl rfl _ ZP wr rfl rfl rfl (by kernel_rfl) (by kernel_rfl) ?_)
        go_ret
        exact ⟨by rw [hE.out]; rfl, hb1⟩
      · have gb : ((k : Int) == 60) = false := by simp; omega
        by_cases g1 : (1000 : Int) < (a.t.size : Int)
        · have hE := Lib.hid (HN.out (by omega))
          clear HS HA g0 HN H60
          go_wp2_with (first | refine wpList_at_g rfl 67 _ rfl w.heap.size _ a.C rfl _ hrow Try.underlying67 rfl (by kernel_rfl) ?_ | refine wpList_store_new rfl 67 _ _ rfl rfl wr.heap.size a.C rfl rfl _ ZP wr rfl rfl rfl (by kernel_rfl) (by kernel_rfl) ?_)
          go_ret
          exact ⟨by rw [hE.out]; rfl, hb1⟩
        · by_cases g2 : (1000 : Int) < (a.z.size : Int)
          · have hE := Lib.hid (HN.out (by omega))
            clear HS HA g0 HN H60
            go_wp2_with (first | refine wpList_at_g rfl 67 _ rfl w.heap.size _ a.C rfl _ hrow Try.underlying67 rfl (by kernel_rfl) ?_ | refine wpList_store_new rfl 67 _ _ rfl rfl wr.heap.size a.C rfl rfl _ ZP wr rfl rfl rfl (by kernel_rfl) (by kernel_rfl) ?_)
            go_ret
            exact ⟨by rw [hE.out]; rfl, hb1⟩
          · have hN := Lib.hid (HS.out (by omega))
            have hk21 : k + 1 ≤ 60 := by omega
            clear HS HA g0 HN H60
            go_wp2_with (first | refine wpList_at_g rfl 67 _ rfl w.heap.size _ a.C rfl _ hrow Try.underlying67 rfl (by kernel_rfl) ?_ | refine wpList_store_new rfl 67 _ _ rfl rfl wr.heap.size a.C rfl rfl _ ZP wr rfl rfl rfl (by kernel_rfl) (by kernel_rfl) ?_)
            go_roundw
            case rel => exact ⟨k + 1, by go_num, by omega, hk21, hN.out, hb1⟩
            case measure => simp [intOf]; omega
    · obtain rfl : k = n := by omega
      have hlt' : ¬ (k : Int) < (k : Int) := by omega
      have HF := Lib.hid (HE1.out (fw_yes (by omega) (fun j hj => HA.out j (by omega))))
      clear HA
      go_wp2_with fail
      go_ret
      exact ⟨by rw [HF.out]; rfl, hb⟩
end Go.Proofs.Ytoiccljmdplfgaa.Nr
