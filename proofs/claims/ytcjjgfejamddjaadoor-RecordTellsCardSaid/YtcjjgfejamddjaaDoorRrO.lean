/-
  THE REFERENCE, walked: a stamp of bytes.
-/
import Derived.Test.YtcjjgfejamddjaaDoorRecM
import Derived.Test.YtcjjgfejamddjaaDoorRecE
import Derived.Test.YtcjjgfejamddjaaDoorRrG
namespace Go.Proofs.YtcjjgfejamddjaaDoor.Rf
open Go.ChangeShapes Go.WideShapes Go.ChangeAt Go.RowKit
open Go.Proofs.YtcjjgfejamddjaaDoor
open Go.Proofs.YtcjjgfejamddjaaDoor.Wd
open Go.Proofs.YtcjjgfejamddjaaDoor.Lit
open Go.Proofs.YtcjjgfejamddjaaDoor.Rec
open Go.Proofs.YtcjjgfejamddjaaDoor.Stp (ofV ofC ofV_lt ofC_at ofC_set ofC_all ofC_0)
set_option linter.unusedVariables false
theorem ofV_two (b : ByteArray) (hb : b.size = 16) {k : Nat} (hk : k < 8) (h1 : 2 * k < b.size) (h2 : 2 * k + 1 < b.size) : (b[2 * k]).toNat + 256 * (b[2 * k + 1]).toNat = ofV b k := by
  unfold ofV
  have l1 : 2 * k < (LB b).length := by rw [LB_len]; exact h1
  have l2 : 2 * k + 1 < (LB b).length := by rw [LB_len]; exact h2
  rw [List.drop_eq_getElem_cons l1, List.drop_eq_getElem_cons l2]
  simp only [List.take_succ_cons, List.take_zero, leN]
  have e1 : b[2 * k] = (LB b)[2 * k] := by rw [Array.getElem_toList]; rfl
  have e2 : b[2 * k + 1] = (LB b)[2 * k + 1] := by rw [Array.getElem_toList]; rfl
  rw [e1, e2]
  omega
set_option maxRecDepth 20000 in
set_option maxHeartbeats 3200000 in
theorem rof16 (b : ByteArray) (w : World) (hb : b.size = 16) :
    Calls Tryd.prog 64 #[.string b] w fun e w' => e = .returned (.tuple #[.agg (stA (stOf b)), .int .i64 0]) ∧ Below w.heap.size w w' := by
  have HB := Lib.hid hb
  have hb' : ((b.size : Int) != 16) = false := by simp; omega
  have x0 : Blk ((w.alloc (.cells (ofC b 0) 41)).alloc (.cells (ofC b 0) 131)) w.heap.size 41 (ofC b 0) := (Blk.new w 41 (ofC b 0)).alloc (.cells (ofC b 0) 131)
  have y0 := blk_at (w.alloc (.cells (ofC b 0) 41)) 131 (ofC b 0) (sz1 w _ rfl)
  have b0 : Below w.heap.size w ((w.alloc (.cells (ofC b 0) 41)).alloc (.cells (ofC b 0) 131)) := ((Below.refl _ _).alloc (Nat.le_refl _) _).alloc (by simp) _
  rw [ofC_0] at x0 y0 b0
  go_enter Tryd.func64, Tryd.ntmps64
  go_wp2_with fail
  generalize (w.alloc (.cells #[.int .u16 0, .int .u16 0, .int .u16 0, .int .u16 0, .int .u16 0, .int .u16 0, .int .u16 0, .int .u16 0] 41)).alloc (.cells #[.int .u16 0, .int .u16 0, .int .u16 0, .int .u16 0, .int .u16 0, .int .u16 0, .int .u16 0, .int .u16 0] 131) = W at *
  go_loopw [10, 5] (fun i _ wr => ∃ k : Nat, i = .int .i64 k ∧ k ≤ 8 ∧ Blk wr w.heap.size 41 (ofC b 0) ∧ Blk wr (w.heap.size + 1) 131 (ofC b k) ∧ Below w.heap.size w wr) (fun i _ _ => 8 - (intOf i).toNat)
  case atStart => exact ⟨0, rfl, Nat.zero_le _, x0, y0, b0⟩
  case round =>
    clear x0 y0 b0 hb'
    obtain ⟨k, rfl, hk, hx, hy, hbw⟩ := hrel
    by_cases hlt : k < 8
    · have hlt' : (k : Int) < 8 := by omega
      have l1 : 2 * k < b.size := by omega
      have l2 : 2 * k + 1 < b.size := by omega
      have hTwo := Lib.hid (ofV_two b hb hlt l1 l2)
      have hSet := Lib.hid (ofC_set b hlt)
      have c0 := hy.cell k
      rw [ofC_at b hlt] at c0
      have f0 := hy.frozen k
      have q1 := (b[2 * k]).toNat_lt
      have q2 := (b[2 * k + 1]).toNat_lt
      have a1 : IntKind.i64.wrap (2 * (k : Int)) = 2 * (k : Int) := by simp [IntKind.wrap, IntKind.bits, IntKind.signed]; omega
      have a2 : IntKind.i64.wrap (2 * (k : Int) + 1) = 2 * (k : Int) + 1 := by simp [IntKind.wrap, IntKind.bits, IntKind.signed]; omega
      have i1 : (0 : Int) ≤ 2 * (k : Int) := by omega
      have i2 : (2 * (k : Int)).toNat = 2 * k := by omega
      have i3 : 2 * (k : Int) < (b.size : Int) := by omega
      have j1 : (0 : Int) ≤ 2 * (k : Int) + 1 := by omega
      have j2 : (2 * (k : Int) + 1).toNat = 2 * k + 1 := by omega
      have j3 : 2 * (k : Int) + 1 < (b.size : Int) := by omega
      have w1 : IntKind.u16.wrap ((b[2 * k]).toNat : Int) = ((b[2 * k]).toNat : Int) := by simp [IntKind.wrap, IntKind.bits, IntKind.signed]; omega
      have w2 : IntKind.u16.wrap ((b[2 * k + 1]).toNat : Int) = ((b[2 * k + 1]).toNat : Int) := by simp [IntKind.wrap, IntKind.bits, IntKind.signed]; omega
      have w3 : IntKind.u16.wrap (256 * ((b[2 * k + 1]).toNat : Int)) = 256 * ((b[2 * k + 1]).toNat : Int) := by simp [IntKind.wrap, IntKind.bits, IntKind.signed]; omega
      have w4 : IntKind.u16.wrap (((b[2 * k]).toNat : Int) + 256 * ((b[2 * k + 1]).toNat : Int)) = ((b[2 * k]).toNat : Int) + 256 * ((b[2 * k + 1]).toNat : Int) := by simp [IntKind.wrap, IntKind.bits, IntKind.signed]; omega
      clear hb hk
      go_upto_region 7 with fail
      have hV : Value.int IntKind.u16 (((b[2 * k]).toNat : Int) + 256 * ((b[2 * k + 1]).toNat : Int)) = .int .u16 (ofV b k : Int) := by rw [← hTwo.out]; push_cast; rfl
      have hy2 : Blk (wr.setCell ⟨w.heap.size + 1, k, none⟩ (.int .u16 (((b[2 * k]).toNat : Int) + 256 * ((b[2 * k + 1]).toNat : Int)))).drew (w.heap.size + 1) 131 (ofC b (k + 1)) := by rw [← hSet.out, ← hV]; exact Blk.drew (hy.set_ k _)
      have hx2 : Blk (wr.setCell ⟨w.heap.size + 1, k, none⟩ (.int .u16 (((b[2 * k]).toNat : Int) + 256 * ((b[2 * k + 1]).toNat : Int)))).drew w.heap.size 41 (ofC b 0) := Blk.drew (hx.far (p := ⟨w.heap.size + 1, k, none⟩) (by show w.heap.size ≠ w.heap.size + 1; omega) _)
      have hb2 := (hbw.setCell (p := ⟨w.heap.size + 1, k, none⟩) (Nat.le_succ _) (.int .u16 (((b[2 * k]).toNat : Int) + 256 * ((b[2 * k + 1]).toNat : Int)))).drew
      clear hV hTwo hSet
      go_region
      all_goals
        go_wp2_with fail
        go_roundw
        case rel => exact ⟨k + 1, by go_num, by omega, hx2, hy2, hb2⟩
        case measure => simp [intOf]; omega
    · obtain rfl : k = 8 := by omega
      have hlt' : ¬ ((8 : Nat) : Int) < 8 := by omega
      rw [ofC_all] at hy
      rw [ofC_0] at hx
      have c0 := hy.cell 0
      have c1 := hy.cell 1
      have c2 := hy.cell 2
      have c3 := hy.cell 3
      have c4 := hy.cell 4
      have c5 := hy.cell 5
      have c6 := hy.cell 6
      have c7 := hy.cell 7
      simp at c0 c1 c2 c3 c4 c5 c6 c7
      go_wp2_with (refine wpList_store_g rfl 41 _ _ rfl rfl _ 0 (stA (stOf b)) (stA (stOf b)) rfl rfl _ _ hx (by show 0 + 8 ≤ 8; decide) (by kernel_rfl) (by kernel_rfl) (by kernel_rfl) ?_)
      exact bodyPost_ret (res_ct rfl _ _ _ _ _ _ _ rfl rfl (Blk.row hx _) Tryd.underlying41 rfl (by kernel_rfl)) rfl ⟨rfl, below_row hbw (Nat.le_refl _) _⟩
end Go.Proofs.YtcjjgfejamddjaaDoor.Rf
