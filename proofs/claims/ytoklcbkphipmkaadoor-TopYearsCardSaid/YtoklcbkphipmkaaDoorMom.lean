/-
  TIMES OF A DAY BY A CLOCK, WALKED: whether a moment is right; its nominal time.
-/
import Derived.Test.YtoklcbkphipmkaaDoorDay
import Derived.Test.YtoklcbkphipmkaaDoorClk
namespace Go.Proofs.YtoklcbkphipmkaaDoor.Mo
open Go.ChangeShapes Go.WideShapes Go.ChangeAt Go.RowKit
open Go.Proofs.YtoklcbkphipmkaaDoor
open Go.Proofs.YtoklcbkphipmkaaDoor.Wd (Blk)
open Go.Proofs.YtoklcbkphipmkaaDoor.Dy
open Go.Proofs.YtoklcbkphipmkaaDoor.Civ (Tab ret_int)
open Go.Proofs.YtoklcbkphipmkaaDoor.Clk (atV atE at_any)
set_option linter.unusedVariables false
abbrev momV (s c : Int) : Value := .agg #[.int .i64 s, .int .u8 c]
def mE (s c : Int) : Int := if -604800 ≤ s ∧ s ≤ 604800 ∧ c < 3 then 0 else 2
theorem mchk_any (s c : Int) (w : World) :
    Calls Tryd.prog 20 #[momV s c] w fun e w' => e = .returned (.int .i64 (mE s c)) ∧ Below w.heap.size w w' := by
  have hb : Below w.heap.size w (w.alloc (.cells #[.int .i64 s, .int .u8 c] 33)) := (Below.refl _ _).alloc (Nat.le_refl _) _
  have hc : s < -604800 ∨ (¬ s < -604800 ∧ 604800 < s) ∨ (¬ s < -604800 ∧ ¬ 604800 < s ∧ ¬ c < 3) ∨ (¬ s < -604800 ∧ ¬ 604800 < s ∧ c < 3) := by omega
  rcases hc with h1 | ⟨h1, h2⟩ | ⟨h1, h2, h3⟩ | ⟨h1, h2, h3⟩
  · have HE := Lib.hid (show mE s c = 2 by unfold mE; rw [if_neg (by omega)])
    go_enter Tryd.func20, Tryd.ntmps20
    go_wp2
    go_ret
    exact ⟨ret_int HE.out.symm, hb⟩
  · have HE := Lib.hid (show mE s c = 2 by unfold mE; rw [if_neg (by omega)])
    go_enter Tryd.func20, Tryd.ntmps20
    go_wp2
    go_ret
    exact ⟨ret_int HE.out.symm, hb⟩
  · have HE := Lib.hid (show mE s c = 2 by unfold mE; rw [if_neg (by omega)])
    have h3' : 3 ≤ c := by omega
    go_enter Tryd.func20, Tryd.ntmps20
    go_wp2
    go_ret
    exact ⟨ret_int HE.out.symm, hb⟩
  · have HE := Lib.hid (show mE s c = 0 by unfold mE; rw [if_pos (by omega)])
    have h3' : ¬ 3 ≤ c := by omega
    go_enter Tryd.func20, Tryd.ntmps20
    go_wp2
    go_ret
    exact ⟨ret_int HE.out.symm, hb⟩
def nomE (y m k n dw s c : Int) : Int := if mE s c = 2 then 2 else if inE k n dw y m ≠ 0 then inE k n dw y m else atE (inV k n dw y m) s
def nomV (y m k n dw s c : Int) : Int := if nomE y m k n dw s c = 0 then atV (inV k n dw y m) s else 0
theorem ret_nom {y m k n dw s c a b : Int} (h : nomE y m k n dw s c = b) (hv : nomV y m k n dw s c = a) : Ending.returned (.tuple #[.int .i64 a, .int .i64 b]) = Ending.returned (.tuple #[.int .i64 (nomV y m k n dw s c), .int .i64 (nomE y m k n dw s c)]) := by rw [h, hv]
theorem nomV_no {y m k n dw s c b : Int} (h : nomE y m k n dw s c = b) (hb : b ≠ 0) : nomV y m k n dw s c = 0 := by unfold nomV; rw [h, if_neg hb]
theorem nomV_yes {y m k n dw s c : Int} (h : nomE y m k n dw s c = 0) : nomV y m k n dw s c = atV (inV k n dw y m) s := by unfold nomV; rw [h, if_pos rfl]
set_option maxRecDepth 20000 in
set_option maxHeartbeats 1600000 in
theorem nominal_any (y m k n dw s c : Int) (w : World) (hT : Tab w) (hk : 0 ≤ k) :
    Calls Tryd.prog 13 #[.int .i64 y, .int .i64 m, dayV k n dw, momV s c] w fun e w' => e = .returned (.tuple #[.int .i64 (nomV y m k n dw s c), .int .i64 (nomE y m k n dw s c)]) ∧ Below w.heap.size w w' := by
  have hb0 := (d_box w #[.int .u8 k, .int .i64 n, .int .i64 dw])
  have hb := hb0.alloc hb0.size (.cells #[.int .i64 s, .int .u8 c] 33)
  have zd := (Blk.new w 30 #[.int .u8 k, .int .i64 n, .int .i64 dw]).alloc (.cells #[.int .i64 s, .int .u8 c] 33)
  have zm : Blk ((w.alloc (.cells #[.int .u8 k, .int .i64 n, .int .i64 dw] 30)).alloc (.cells #[.int .i64 s, .int .u8 c] 33)) (w.heap.size + 1) 33 #[.int .i64 s, .int .u8 c] := Wd.blk_at _ _ _ (Wd.sz1 w _ rfl)
  have hm : mE s c = 0 ∨ mE s c = 2 := by unfold mE; split <;> simp
  rcases hm with hm | hm
  · by_cases hi : inE k n dw y m = 0
    · by_cases ha : atE (inV k n dw y m) s = 0
      · have HE := Lib.hid (show nomE y m k n dw s c = 0 by unfold nomE; rw [hm, if_neg (by decide), if_neg (by rw [hi]; decide), ha])
        have HV := Lib.hid (nomV_yes HE.out)
        go_enter Tryd.func13, Tryd.ntmps13
        go_wp2_with (first | refine Wd.wpList_row_g rfl 33 _ rfl _ rfl _ _ _ _ zm Tryd.underlying33 rfl (by kernel_rfl) ?_ | (go_at_call 20; refine (mchk_any _ _ _).mono ?_; rintro e w1 ⟨rfl, hb1⟩; rw [hm]; have hB1 := hb.trans (hb1.mono hb.size); have zd1 := zd.below hb1 zd.lt; have zm1 := zm.below hb1 zm.lt; have hT1 := hT.below hT.1 hB1) | refine Wd.wpList_row_g rfl 30 _ rfl _ rfl _ _ _ _ zd1 Tryd.underlying30 rfl (by kernel_rfl) ?_ | (go_at_call 29; refine (in_any k n dw y m _ hT1 hk).mono ?_; rintro e w2 ⟨rfl, hb2⟩; rw [hi]; have hB2 := hB1.trans (hb2.mono hB1.size); have zm2 := zm1.below hb2 zm1.lt; have c0 : w2.cell? ⟨w.heap.size + 1, 0, none⟩ = some (.int .i64 s) := zm2.cell 0) | (go_at_call 30; refine (at_any _ _ _).mono ?_; rintro e w3 ⟨rfl, hb3⟩; rw [ha]; have hB3 := hB2.trans (hb3.mono hB2.size)))
        go_ret2
        exact ⟨ret_nom HE.out HV.out, hB3⟩
      · have hab : (atE (inV k n dw y m) s != 0) = true := by rw [bne_iff_ne]; exact ha
        have HE := Lib.hid (show nomE y m k n dw s c = atE (inV k n dw y m) s by unfold nomE; rw [hm, if_neg (by decide), if_neg (by rw [hi]; decide)])
        have HV := Lib.hid (nomV_no HE.out ha)
        clear ha
        go_enter Tryd.func13, Tryd.ntmps13
        go_wp2_with (first | refine Wd.wpList_row_g rfl 33 _ rfl _ rfl _ _ _ _ zm Tryd.underlying33 rfl (by kernel_rfl) ?_ | (go_at_call 20; refine (mchk_any _ _ _).mono ?_; rintro e w1 ⟨rfl, hb1⟩; rw [hm]; have hB1 := hb.trans (hb1.mono hb.size); have zd1 := zd.below hb1 zd.lt; have zm1 := zm.below hb1 zm.lt; have hT1 := hT.below hT.1 hB1) | refine Wd.wpList_row_g rfl 30 _ rfl _ rfl _ _ _ _ zd1 Tryd.underlying30 rfl (by kernel_rfl) ?_ | (go_at_call 29; refine (in_any k n dw y m _ hT1 hk).mono ?_; rintro e w2 ⟨rfl, hb2⟩; rw [hi]; have hB2 := hB1.trans (hb2.mono hB1.size); have zm2 := zm1.below hb2 zm1.lt; have c0 : w2.cell? ⟨w.heap.size + 1, 0, none⟩ = some (.int .i64 s) := zm2.cell 0) | (go_at_call 30; refine (at_any _ _ _).mono ?_; rintro e w3 ⟨rfl, hb3⟩; have hB3 := hB2.trans (hb3.mono hB2.size)))
        go_ret2
        exact ⟨ret_nom HE.out HV.out, hB3⟩
    · have hib : (inE k n dw y m != 0) = true := by rw [bne_iff_ne]; exact hi
      have HE := Lib.hid (show nomE y m k n dw s c = inE k n dw y m by unfold nomE; rw [hm, if_neg (by decide), if_pos hi])
      have HV := Lib.hid (nomV_no HE.out hi)
      clear hi
      go_enter Tryd.func13, Tryd.ntmps13
      go_wp2_with (first | refine Wd.wpList_row_g rfl 33 _ rfl _ rfl _ _ _ _ zm Tryd.underlying33 rfl (by kernel_rfl) ?_ | (go_at_call 20; refine (mchk_any _ _ _).mono ?_; rintro e w1 ⟨rfl, hb1⟩; rw [hm]; have hB1 := hb.trans (hb1.mono hb.size); have zd1 := zd.below hb1 zd.lt; have zm1 := zm.below hb1 zm.lt; have hT1 := hT.below hT.1 hB1) | refine Wd.wpList_row_g rfl 30 _ rfl _ rfl _ _ _ _ zd1 Tryd.underlying30 rfl (by kernel_rfl) ?_ | (go_at_call 29; refine (in_any k n dw y m _ hT1 hk).mono ?_; rintro e w2 ⟨rfl, hb2⟩; have hB2 := hB1.trans (hb2.mono hB1.size); have zm2 := zm1.below hb2 zm1.lt; have c0 : w2.cell? ⟨w.heap.size + 1, 0, none⟩ = some (.int .i64 s) := zm2.cell 0))
      go_ret2
      exact ⟨ret_nom HE.out HV.out, hB2⟩
  · have HE := Lib.hid (show nomE y m k n dw s c = 2 by unfold nomE; rw [hm, if_pos rfl])
    have HV := Lib.hid (nomV_no HE.out (by decide))
    go_enter Tryd.func13, Tryd.ntmps13
    go_wp2_with (first | refine Wd.wpList_row_g rfl 33 _ rfl _ rfl _ _ _ _ zm Tryd.underlying33 rfl (by kernel_rfl) ?_ | (go_at_call 20; refine (mchk_any _ _ _).mono ?_; rintro e w1 ⟨rfl, hb1⟩; rw [hm]; have hB1 := hb.trans (hb1.mono hb.size); have zd1 := zd.below hb1 zd.lt; have zm1 := zm.below hb1 zm.lt; have hT1 := hT.below hT.1 hB1))
    go_ret2
    exact ⟨ret_nom HE.out HV.out, hB1⟩
end Go.Proofs.YtoklcbkphipmkaaDoor.Mo
