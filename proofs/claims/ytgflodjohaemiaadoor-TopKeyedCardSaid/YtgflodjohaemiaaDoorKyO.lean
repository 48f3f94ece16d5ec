/-
  CHARTS: CHARTS: Small: walked.
-/
import Derived.Test.YtgflodjohaemiaaDoorKyN
namespace Go.Proofs.YtgflodjohaemiaaDoor.Ky
open Go.ChangeShapes Go.WideShapes Go.ChangeAt Go.RowKit Go.Maps
open Go.Proofs.YtgflodjohaemiaaDoor
open Go.Proofs.YtgflodjohaemiaaDoor.Wd
open Go.Proofs.YtgflodjohaemiaaDoor.Sl
open Go.Proofs.YtgflodjohaemiaaDoor.Mp (Smap wpList_look_yes wpList_look_no wpList_mput mput mput_same mput_other kS hR)
open Go.Proofs.YtgflodjohaemiaaDoor.Mr (Rmap rk row_key rowV)
open Go.Proofs.YtgflodjohaemiaaDoor.Utf (L)
set_option linter.unusedVariables false
set_option linter.unusedSimpArgs false
def SmP (x : Ending) : Prop := x = .returned (.int .i64 0) ∨ x = .returned (.int .i64 1)
set_option maxRecDepth 100000 in
set_option maxHeartbeats 12800000 in
theorem small_any (Ad : Option Addr) (n c B : Nat) (l : List En) (w : World) (hR : ChR w B Ad n c l) (hB : B ≤ w.heap.size) : Calls Tryd.prog 5 #[.slice Ad n c] w fun x w' => SmP x ∧ Below w.heap.size w w' := by
  have hlen := hR.s.len
  have hm := hR.m
  unfold maxLen at hm
  have S0 := Lib.hid (show SmP (.returned (.int .i64 0)) from .inl rfl)
  have S1 := Lib.hid (show SmP (.returned (.int .i64 1)) from .inr rfl)
  by_cases h40 : 40 < n
  · have hI : (40 : Int) < (n : Int) := by omega
    go_enter Tryd.func5, Tryd.ntmps5
    go_wp2_with fail
    go_ret
    exact ⟨S0.out, Below.refl _ _⟩
  have hI : ¬ (40 : Int) < (n : Int) := by omega
  go_enter Tryd.func5, Tryd.ntmps5
  go_upto_region 4 with fail
  go_loopw [12] (fun i wr => ∃ k : Nat, i = .int .i64 (k : Int) ∧ k ≤ n ∧ Below w.heap.size w wr) (fun i _ => n - (intOf i).toNat)
  case atStart => exact ⟨0, rfl, Nat.zero_le _, Below.refl _ _⟩
  case round =>
    obtain ⟨k, rfl, hk, b⟩ := hrel
    by_cases hlt : k < n
    · have hltI : (k : Int) < (n : Int) := by omega
      have hkl : k < l.length := by omega
      obtain ⟨ad, eA, hrow⟩ := (hR.s.below (b.mono hB)).row (fun _ => rfl) En.nil hlt
      subst eA
      have heo := hR.b _ (getD_mem (L := l) En.nil hkl)
      obtain ⟨e, he⟩ : ∃ e, l.getD k En.nil = e := ⟨_, rfl⟩
      rw [he] at hrow heo
      have hzl := heo.2.2.1.len
      have hb1 := bal (Below.refl _ wr) (.cells e.C 58)
      have y1 := Blk.new wr 58 e.C; have b1 := bcl b hb1
      clear hb1 he
      go_upto_region 6 with (first | (refine wpList_at_g rfl 58 _ rfl _ _ e.C rfl _ hrow Tryd.underlying58 rfl (by kernel_rfl) ?_) | (refine wpList_store_new rfl 58 _ _ rfl rfl wr.heap.size e.C rfl rfl _ #[.string ⟨#[]⟩, .string ⟨#[]⟩, .slice none 0 0] wr rfl rfl rfl (by kernel_rfl) (by kernel_rfl) ?_))
      clear hrow b
      generalize wr.alloc (.cells e.C 58) = V at *
      obtain ⟨q, hq⟩ : ∃ q, wr.heap.size = q := ⟨_, rfl⟩
      simp only [hq] at y1 ⊢
      clear hq
      have d0 : V.cell? ⟨q, 0, none⟩ = some (.string e.ky) := y1.cell 0
      have d1 : V.cell? ⟨q, 1, none⟩ = some (.string e.te) := y1.cell 1
      have d2 : V.cell? ⟨q, 2, none⟩ = some (.slice e.A e.n e.c) := y1.cell 2
      by_cases k1 : 1000 < e.ky.size
      · have kI : (1000 : Int) < (e.ky.size : Int) := by omega
        go_wp2_with fail
        go_ret
        exact ⟨S0.out, b1⟩
      have kI : ¬ (1000 : Int) < (e.ky.size : Int) := by omega
      by_cases k2 : 1000 < e.te.size
      · have kI2 : (1000 : Int) < (e.te.size : Int) := by omega
        go_wp2_with fail
        go_ret
        exact ⟨S0.out, b1⟩
      have kI2 : ¬ (1000 : Int) < (e.te.size : Int) := by omega
      by_cases k3 : 40 < e.n
      · have kI3 : (40 : Int) < (e.n : Int) := by omega
        go_wp2_with fail
        go_ret
        exact ⟨S0.out, b1⟩
      have kI3 : ¬ (40 : Int) < (e.n : Int) := by omega
      go_upto_region 9 with fail
      go_loopw [35] (fun i wq => ∃ j : Nat, i = .int .i64 (j : Int) ∧ j ≤ e.n ∧ Below w.heap.size w wq) (fun i _ => e.n - (intOf i).toNat)
      case atStart => exact ⟨0, rfl, Nat.zero_le _, b1⟩
      case round =>
        clear b1 d0 d1 d2 y1
        obtain ⟨j, rfl, hj, b1⟩ := hrel
        by_cases hl2 : j < e.n
        · have hl2I : (j : Int) < (e.n : Int) := by omega
          obtain ⟨az, eZ, zrow⟩ := (heo.2.2.1.below (b1.mono hB)).row (fun _ => rfl) ByteArray.empty hl2
          rw [eZ]
          obtain ⟨z, hz⟩ : ∃ z, e.zs.getD j ByteArray.empty = z := ⟨_, rfl⟩
          rw [hz] at zrow
          have cp : wr.cell? (az.add j) = some (.string z) := by
            have := row_c0 zrow (v := .string z) rfl
            rwa [Nat.mul_one] at this
          clear hz zrow eZ
          by_cases k4 : 1000 < z.size
          · have kI4 : (1000 : Int) < (z.size : Int) := by omega
            go_wp2_with fail
            go_ret
            exact ⟨S0.out, b1⟩
          · have kI4 : ¬ (1000 : Int) < (z.size : Int) := by omega
            go_wp2_with fail
            go_roundw
            case rel => exact ⟨j + 1, by go_num, by omega, b1⟩
            case measure => simp [intOf]; omega
        · obtain rfl : j = e.n := by omega
          have hl2I : ¬ (e.n : Int) < (e.n : Int) := by omega
          go_wp2_with fail
          go_roundw
          case rel => exact ⟨k + 1, by go_num, by omega, b1⟩
          case measure => simp [intOf]; omega
    · obtain rfl : k = n := by omega
      have hltI : ¬ (k : Int) < (k : Int) := by omega
      go_wp2_with fail
      go_ret
      exact ⟨S1.out, b⟩
end Go.Proofs.YtgflodjohaemiaaDoor.Ky
