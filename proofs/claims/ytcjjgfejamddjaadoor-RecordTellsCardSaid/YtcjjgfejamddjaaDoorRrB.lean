/-
  THE REFERENCE, walked: the bytes of a stamp.
-/
import Derived.Test.YtcjjgfejamddjaaDoorRrQ
import Derived.Test.YtcjjgfejamddjaaDoorRrA
namespace Go.Proofs.YtcjjgfejamddjaaDoor.Stp
open Go.ChangeShapes Go.WideShapes Go.ChangeAt Go.RowKit
open Go.Proofs.YtcjjgfejamddjaaDoor
open Go.Proofs.YtcjjgfejamddjaaDoor.Wd
open Go.Proofs.YtcjjgfejamddjaaDoor.Lit
set_option linter.unusedVariables false
set_option maxRecDepth 20000 in
set_option maxHeartbeats 6400000 in
theorem rbytes_any (y m v d h i s u : Nat) (w : World) (B : ∀ z ∈ stL y m v d h i s u, z ≤ 65535) :
    Calls Tryd.prog 71 #[stN y m v d h i s u] w fun e w' => e = .returned (.string ⟨(encN 2 (stL y m v d h i s u)).toArray⟩) ∧ Below w.heap.size w w' := by
  go_enter Tryd.func71, Tryd.ntmps71
  go_wp2_with fail
  have hb0 : Below w.heap.size w ((w.alloc (.cells #[.int .u16 (y : Int), .int .u16 (m : Int), .int .u16 (v : Int), .int .u16 (d : Int), .int .u16 (h : Int), .int .u16 (i : Int), .int .u16 (s : Int), .int .u16 (u : Int)] 41)).alloc (.cells #[.int .u16 (y : Int), .int .u16 (m : Int), .int .u16 (v : Int), .int .u16 (d : Int), .int .u16 (h : Int), .int .u16 (i : Int), .int .u16 (s : Int), .int .u16 (u : Int)] 22)) := ((Below.refl _ _).alloc (Nat.le_refl _) _).alloc (by simp) _
  have hx0 : Blk ((w.alloc (.cells #[.int .u16 (y : Int), .int .u16 (m : Int), .int .u16 (v : Int), .int .u16 (d : Int), .int .u16 (h : Int), .int .u16 (i : Int), .int .u16 (s : Int), .int .u16 (u : Int)] 41)).alloc (.cells #[.int .u16 (y : Int), .int .u16 (m : Int), .int .u16 (v : Int), .int .u16 (d : Int), .int .u16 (h : Int), .int .u16 (i : Int), .int .u16 (s : Int), .int .u16 (u : Int)] 22)) (w.heap.size + 1) 22 #[.int .u16 (y : Int), .int .u16 (m : Int), .int .u16 (v : Int), .int .u16 (d : Int), .int .u16 (h : Int), .int .u16 (i : Int), .int .u16 (s : Int), .int .u16 (u : Int)] := Rec.blk_at _ _ _ (Rec.sz1 w _ rfl)
  generalize (w.alloc (.cells #[.int .u16 (y : Int), .int .u16 (m : Int), .int .u16 (v : Int), .int .u16 (d : Int), .int .u16 (h : Int), .int .u16 (i : Int), .int .u16 (s : Int), .int .u16 (u : Int)] 41)).alloc (.cells #[.int .u16 (y : Int), .int .u16 (m : Int), .int .u16 (v : Int), .int .u16 (d : Int), .int .u16 (h : Int), .int .u16 (i : Int), .int .u16 (s : Int), .int .u16 (u : Int)] 22) = W at *
  go_loopw [24, 3] (fun ii o wr => ∃ (k : Nat) (x : ByteArray), ii = .int .i64 k ∧ .string x = o ∧ k ≤ 8 ∧ LB x = encN 2 ((stL y m v d h i s u).take k) ∧ Below W.heap.size W wr) (fun ii _ _ => 8 - (intOf ii).toNat)
  case atStart => exact ⟨0, ⟨#[]⟩, rfl, rfl, Nat.zero_le _, by simp [encN], Below.refl _ _⟩
  case round =>
    obtain ⟨k, x, rfl, rfl, hk, he, hbw⟩ := hrel
    have hx := hx0.below hbw hx0.lt
    by_cases hlt : k < 8
    · have hlt' : (k : Int) < 8 := by omega
      have hT := Lib.hid (encN_take (N := 2) (l := stL y m v d h i s u) (k := k) hlt)
      have hz := B _ (List.getElem_mem (l := stL y m v d h i s u) (n := k) hlt)
      have hel : (encN 2 ((stL y m v d h i s u).take k)).length ≤ 1000 := by rw [encN_len, List.length_take]; omega
      have hxs : x.size ≤ 1000 := by rw [← LB_len, he]; exact hel
      have HE := Lib.hid he; clear he hel
      have hc := hx.cell k
      generalize hzz : (stL y m v d h i s u)[k] = z at *
      have hc2 : wr.cell? ⟨w.heap.size + 1, k, none⟩ = some (.int .u16 (z : Int)) := by
        rw [hc, ← hzz]
        have hk8 : k = 0 ∨ k = 1 ∨ k = 2 ∨ k = 3 ∨ k = 4 ∨ k = 5 ∨ k = 6 ∨ k = 7 := by omega
        rcases hk8 with rfl | rfl | rfl | rfl | rfl | rfl | rfl | rfl <;> rfl
      have hzw := wrap_u64' hz
      clear hc hzz
      have hp8 : ByteArray.size ⟨(putL 2 z).toArray⟩ = 2 := by show (putL 2 z).toArray.size = 2; rw [List.size_toArray]; unfold putL; rw [if_pos (by decide)]; exact putN_len z 2
      have hsum : x.size + ByteArray.size ⟨(putL 2 z).toArray⟩ ≤ 10000 := by omega
      go_wp2_with (go_at_call 70; refine (rput_any 2 z _ (by omega)).mono ?_; rintro e w2 ⟨rfl, hb2⟩)
      go_roundw
      case rel => exact ⟨k + 1, _, by go_num, rfl, by omega, by rw [hT.out, ← HE.out]; show L _ = _; rw [L_app]; rfl, hbw.trans (hb2.mono hbw.size)⟩
      case measure => simp [intOf]; omega
    · obtain rfl : k = 8 := by omega
      have hlt' : ¬ ((8 : Nat) : Int) < 8 := by omega
      go_wp2_with fail
      have hxe : (⟨(encN 2 (stL y m v d h i s u)).toArray⟩ : ByteArray) = x := by
        have : LB x = encN 2 (stL y m v d h i s u) := he
        rw [← this]
      go_ret
      exact ⟨by rw [hxe]; rfl, hb0.trans (hbw.mono hb0.size)⟩
end Go.Proofs.YtcjjgfejamddjaaDoor.Stp
