/-
  DAYS READ AND WRITTEN, WALKED: day.told of any text of at least three bytes, day.Parse, day.Text.
-/
import Derived.Test.YtginidedeefcdaaDoorNm
import Derived.Test.YtginidedeefcdaaDoorWt
import Derived.Test.YtginidedeefcdaaDoorAbM
import Derived.Test.YtginidedeefcdaaDoorShc
import Derived.Deep.RegionHeld3
namespace Go.Proofs.YtginidedeefcdaaDoor.Wk
open Go.ChangeShapes Go.WideShapes Go.ChangeAt Go.RowKit
open Go.Proofs.YtginidedeefcdaaDoor
open Go.Proofs.YtginidedeefcdaaDoor.Wd
open Go.Proofs.YtginidedeefcdaaDoor.Dy
open Go.Proofs.YtginidedeefcdaaDoor.Ab (cutA cutB cutZ cut_hit)
set_option linter.unusedVariables false
def Mx (w : World) : Prop := ∃ m, w.cell? ⟨3, 0, none⟩ = some (.int .i64 m)
theorem Mx.below {w w' : World} (h : Mx w) (hb : Below w.heap.size w w') : Mx w' := by
  obtain ⟨m, hm⟩ := h
  exact ⟨m, (hb.cell (World.block_lt_of_cell? w _ hm)).trans hm⟩
abbrev bL : ByteArray := ⟨#[108, 97, 115, 116]⟩
abbrev gE : List UInt8 := [62, 61]
abbrev lE : List UInt8 := [60, 61]
abbrev BA (l : List UInt8) : ByteArray := ⟨l.toArray⟩
theorem cut_any (s p : ByteArray) (w : World) (hM : Mx w) (hs : s.size ≤ 100000) :
    Calls Tryd.prog 93 #[.string s, .string p] w fun e w' => e = .returned (.tuple #[.string (BA (cutA (L s) (L p))), .string (BA (cutZ (L s) (L p))), .bool (cutB (L s) (L p))]) ∧ Below w.heap.size w w' := by
  obtain ⟨m, hm⟩ := hM
  exact (Tryd.strings_Cut s p m w (by omega) hm).mono fun e w' ⟨h1, n, h2⟩ => ⟨h1, by subst h2; exact ⟨rfl, rfl, rfl, Nat.le_refl _, fun _ _ => rfl⟩⟩
theorem BA_size (l : List UInt8) : (BA l).size = l.length := rfl
theorem cut_len (f p : List UInt8) : (cutA f p).length ≤ f.length ∧ (cutZ f p).length ≤ f.length := by
  unfold cutA cutZ Lib.cut
  split <;> simp
  omega
def tK (s : ByteArray) : Int := if 4 ≤ s.size ∧ sameB (s.extract 0 4) bL = true then 1 else if cutB (L s) gE = true then 2 else if cutB (L s) lE = true then 3 else 4
def tN (s : ByteArray) : Int := if tK s = 2 then numV (BA (cutZ (L s) gE)) else if tK s = 3 then numV (BA (cutZ (L s) lE)) else 0
def tD (s : ByteArray) : Int := if tK s = 1 then pickV (s.extract 4 s.size) dayNs else if tK s = 2 then pickV (BA (cutA (L s) gE)) dayNs else if tK s = 3 then pickV (BA (cutA (L s) lE)) dayNs else 0
theorem tK_bd (s : ByteArray) : 0 ≤ tK s := by unfold tK; split; decide; split; decide; split <;> decide
abbrev tA (s : ByteArray) : Array Value := #[.int .u8 (tK s), .int .i64 (tN s), .int .i64 (tD s)]
theorem ret_told {s : ByteArray} {a b c : Int} (h1 : tK s = a) (h2 : tN s = b) (h3 : tD s = c) : Ending.returned (.agg #[.int .u8 a, .int .i64 b, .int .i64 c]) = Ending.returned (.agg (tA s)) := by subst h1; subst h2; subst h3; rfl
set_option maxRecDepth 20000 in
set_option maxHeartbeats 1600000 in
theorem told_last_any (s : ByteArray) (w : World) (h : 2 < s.size) (hs : s.size ≤ 1000) (hM : Mx w) (h4 : 4 ≤ s.size) (hsm : sameB (s.extract 0 4) bL = true) :
    Calls Tryd.prog 75 #[.string s] w fun e w' => e = .returned (.agg (tA s)) ∧ Below w.heap.size w w' := by
  have hb0 := d_box w dz
  have z0 : Blk (w.alloc (.cells dz 56)) w.heap.size 56 dz := Blk.new _ _ _
  have hM0 := hM.below hb0
  have hNm := fun w' => num_long s w' h
  have HK := Lib.hid (show tK s = 1 by unfold tK; rw [if_pos ⟨h4, hsm⟩])
  have HN := Lib.hid (show tN s = 0 by unfold tN; rw [HK.out]; rfl)
  have HD := Lib.hid (show tD s = pickV (s.extract 4 s.size) dayNs by unfold tD; rw [HK.out]; rfl)
  have hS := fun w' => same_any (s.extract 0 4) bL w' (by simp; omega) (by decide)
  rw [hsm] at hS
  have hW := fun w' => wkday_any (s.extract 4 s.size) w' (by simp; omega)
  have h4' : ¬ (s.size : Int) < 4 := by omega
  clear hsm
  go_enter Tryd.func75, Tryd.ntmps75
  go_wp2_with (first
    | (go_at_call 92; refine (hNm _).mono ?_; rintro e w1 ⟨rfl, rfl⟩)
    | (go_at_call 91; refine (hS _).mono ?_; rintro e w2 ⟨rfl, hb2⟩; have hB2 := hb0.trans (hb2.mono hb0.size); have z2 := z0.below hb2 z0.lt; have hM2 := hM0.below hb2)
    | (go_at_call 39; refine (hW _).mono ?_; rintro e w3 ⟨rfl, hb3⟩; have hB3 := hB2.trans (hb3.mono hB2.size); have z3 := z2.below hb3 z2.lt)
    | refine wpList_store_g rfl 56 _ _ rfl rfl _ 0 #[.int .u8 1, .int .i64 0, .int .i64 (pickV (s.extract 4 s.size) dayNs)] #[.int .u8 1, .int .i64 0, .int .i64 (pickV (s.extract 4 s.size) dayNs)] rfl rfl _ _ z3 (by show 0 + 3 ≤ 3; decide) (by kernel_rfl) (by kernel_rfl) (by kernel_rfl) ?_)
  exact bodyPost_ret (results_d1 rfl _ _ _ _ _ rfl (Blk.row z3 _) rfl) rfl ⟨ret_told HK.out HN.out HD.out, below_row hB3 (Nat.le_refl _) _⟩
set_option maxRecDepth 20000 in
set_option maxHeartbeats 1600000 in
theorem told_ge_s (s : ByteArray) (w : World) (h : 2 < s.size) (hs : s.size ≤ 1000) (hM : Mx w) (h4 : s.size < 4) (hg : cutB (L s) gE = true) :
    Calls Tryd.prog 75 #[.string s] w fun e w' => e = .returned (.agg (tA s)) ∧ Below w.heap.size w w' := by
  have hb0 := d_box w dz
  have z0 : Blk (w.alloc (.cells dz 56)) w.heap.size 56 dz := Blk.new _ _ _
  have hM0 := hM.below hb0
  have hNm := fun w' => num_long s w' h
  have HK := Lib.hid (show tK s = 2 by unfold tK; rw [if_neg (by omega), if_pos hg])
  have HN := Lib.hid (show tN s = numV (BA (cutZ (L s) gE)) by unfold tN; rw [HK.out]; rfl)
  have HD := Lib.hid (show tD s = pickV (BA (cutA (L s) gE)) dayNs by unfold tD; rw [HK.out]; rfl)
  have hl1 := cut_len (L s) gE; have hl2 := cut_len (L s) lE
  rw [L_len] at hl1 hl2
  have hC1 := fun w' hM => cut_any s ⟨#[62, 61]⟩ w' hM (by omega)
  have hC2 := fun w' hM => cut_any s ⟨#[60, 61]⟩ w' hM (by omega)
  rw [show L ⟨#[62, 61]⟩ = gE from rfl, hg] at hC1
  have hZ := fun w' => number_any (BA (cutZ (L s) gE)) w'
  have hW := fun w' => wkday_any (BA (cutA (L s) gE)) w' (by rw [BA_size]; omega)
  have h4' : (s.size : Int) < 4 := by omega
  clear hg
  clear hl1 hl2
  go_enter Tryd.func75, Tryd.ntmps75
  go_wp2_with (first | (go_at_call 92; refine (hNm _).mono ?_; rintro e w1 ⟨rfl, rfl⟩))
  refine (hC1 _ hM0).mono ?_; rintro e w5 ⟨rfl, hb5⟩
  have hB5 := hb0.trans (hb5.mono hb0.size); have z5 := z0.below hb5 z0.lt; have hM5 := hM0.below hb5
  go_wp2_with fail
  refine (hZ _).mono ?_; rintro e w7 ⟨rfl, hw7⟩; subst hw7
  go_wp2_with fail
  refine (hW _).mono ?_; rintro e w8 ⟨rfl, hb8⟩
  have hB8 := hB5.trans (hb8.mono hB5.size); have z8 := z5.below hb8 z5.lt
  go_wp2_with (first | refine wpList_store_g rfl 56 _ _ rfl rfl _ 0 #[.int .u8 2, .int .i64 (numV (BA (cutZ (L s) gE))), .int .i64 (pickV (BA (cutA (L s) gE)) dayNs)] #[.int .u8 2, .int .i64 (numV (BA (cutZ (L s) gE))), .int .i64 (pickV (BA (cutA (L s) gE)) dayNs)] rfl rfl _ _ z8 (by show 0 + 3 ≤ 3; decide) (by kernel_rfl) (by kernel_rfl) (by kernel_rfl) ?_)
  exact bodyPost_ret (results_d1 rfl _ _ _ _ _ rfl (Blk.row z8 _) rfl) rfl ⟨ret_told HK.out HN.out HD.out, below_row hB8 (Nat.le_refl _) _⟩
set_option maxRecDepth 20000 in
set_option maxHeartbeats 1600000 in
theorem told_le_s (s : ByteArray) (w : World) (h : 2 < s.size) (hs : s.size ≤ 1000) (hM : Mx w) (h4 : s.size < 4) (hg : cutB (L s) gE = false) (hl : cutB (L s) lE = true) :
    Calls Tryd.prog 75 #[.string s] w fun e w' => e = .returned (.agg (tA s)) ∧ Below w.heap.size w w' := by
  have hb0 := d_box w dz
  have z0 : Blk (w.alloc (.cells dz 56)) w.heap.size 56 dz := Blk.new _ _ _
  have hM0 := hM.below hb0
  have hNm := fun w' => num_long s w' h
  have HK := Lib.hid (show tK s = 3 by unfold tK; rw [if_neg (by omega), if_neg (by rw [hg]; decide), if_pos hl])
  have HN := Lib.hid (show tN s = numV (BA (cutZ (L s) lE)) by unfold tN; rw [HK.out]; rfl)
  have HD := Lib.hid (show tD s = pickV (BA (cutA (L s) lE)) dayNs by unfold tD; rw [HK.out]; rfl)
  have hl1 := cut_len (L s) gE; have hl2 := cut_len (L s) lE
  rw [L_len] at hl1 hl2
  have hC1 := fun w' hM => cut_any s ⟨#[62, 61]⟩ w' hM (by omega)
  have hC2 := fun w' hM => cut_any s ⟨#[60, 61]⟩ w' hM (by omega)
  rw [show L ⟨#[62, 61]⟩ = gE from rfl, hg] at hC1
  rw [show L ⟨#[60, 61]⟩ = lE from rfl, hl] at hC2
  have hZ := fun w' => number_any (BA (cutZ (L s) lE)) w'
  have hW := fun w' => wkday_any (BA (cutA (L s) lE)) w' (by rw [BA_size]; omega)
  have h4' : (s.size : Int) < 4 := by omega
  clear hg hl
  clear hl1 hl2
  go_enter Tryd.func75, Tryd.ntmps75
  go_wp2_with (first | (go_at_call 92; refine (hNm _).mono ?_; rintro e w1 ⟨rfl, rfl⟩))
  refine (hC1 _ hM0).mono ?_; rintro e w5 ⟨rfl, hb5⟩
  have hB5 := hb0.trans (hb5.mono hb0.size); have z5 := z0.below hb5 z0.lt; have hM5 := hM0.below hb5
  go_wp2_with fail
  refine (hC2 _ hM5).mono ?_; rintro e w6 ⟨rfl, hb6⟩
  have hB6 := hB5.trans (hb6.mono hB5.size); have z6 := z5.below hb6 z5.lt; have hM6 := hM5.below hb6
  go_wp2_with fail
  refine (hZ _).mono ?_; rintro e w7 ⟨rfl, hw7⟩; subst hw7
  go_wp2_with fail
  refine (hW _).mono ?_; rintro e w8 ⟨rfl, hb8⟩
  have hB8 := hB6.trans (hb8.mono hB6.size); have z8 := z6.below hb8 z6.lt
  go_wp2_with (first | refine wpList_store_g rfl 56 _ _ rfl rfl _ 0 #[.int .u8 3, .int .i64 (numV (BA (cutZ (L s) lE))), .int .i64 (pickV (BA (cutA (L s) lE)) dayNs)] #[.int .u8 3, .int .i64 (numV (BA (cutZ (L s) lE))), .int .i64 (pickV (BA (cutA (L s) lE)) dayNs)] rfl rfl _ _ z8 (by show 0 + 3 ≤ 3; decide) (by kernel_rfl) (by kernel_rfl) (by kernel_rfl) ?_)
  exact bodyPost_ret (results_d1 rfl _ _ _ _ _ rfl (Blk.row z8 _) rfl) rfl ⟨ret_told HK.out HN.out HD.out, below_row hB8 (Nat.le_refl _) _⟩
set_option maxRecDepth 20000 in
set_option maxHeartbeats 1600000 in
theorem told_none_s (s : ByteArray) (w : World) (h : 2 < s.size) (hs : s.size ≤ 1000) (hM : Mx w) (h4 : s.size < 4) (hg : cutB (L s) gE = false) (hl : cutB (L s) lE = false) :
    Calls Tryd.prog 75 #[.string s] w fun e w' => e = .returned (.agg (tA s)) ∧ Below w.heap.size w w' := by
  have hb0 := d_box w dz
  have z0 : Blk (w.alloc (.cells dz 56)) w.heap.size 56 dz := Blk.new _ _ _
  have hM0 := hM.below hb0
  have hNm := fun w' => num_long s w' h
  have HK := Lib.hid (show tK s = 4 by unfold tK; rw [if_neg (by omega), if_neg (by rw [hg]; decide), if_neg (by rw [hl]; decide)])
  have HN := Lib.hid (show tN s = 0 by unfold tN; rw [HK.out]; rfl)
  have HD := Lib.hid (show tD s = 0 by unfold tD; rw [HK.out]; rfl)
  have hl1 := cut_len (L s) gE; have hl2 := cut_len (L s) lE
  rw [L_len] at hl1 hl2
  have hC1 := fun w' hM => cut_any s ⟨#[62, 61]⟩ w' hM (by omega)
  have hC2 := fun w' hM => cut_any s ⟨#[60, 61]⟩ w' hM (by omega)
  rw [show L ⟨#[62, 61]⟩ = gE from rfl, hg] at hC1
  rw [show L ⟨#[60, 61]⟩ = lE from rfl, hl] at hC2
  have h4' : (s.size : Int) < 4 := by omega
  clear hg hl
  clear hl1 hl2
  go_enter Tryd.func75, Tryd.ntmps75
  go_wp2_with (first | (go_at_call 92; refine (hNm _).mono ?_; rintro e w1 ⟨rfl, rfl⟩))
  refine (hC1 _ hM0).mono ?_; rintro e w5 ⟨rfl, hb5⟩
  have hB5 := hb0.trans (hb5.mono hb0.size); have z5 := z0.below hb5 z0.lt; have hM5 := hM0.below hb5
  go_wp2_with fail
  refine (hC2 _ hM5).mono ?_; rintro e w6 ⟨rfl, hb6⟩
  have hB6 := hB5.trans (hb6.mono hB5.size); have z6 := z5.below hb6 z5.lt; have hM6 := hM5.below hb6
  go_wp2_with (first | refine wpList_store_g rfl 56 _ _ rfl rfl _ 0 #[.int .u8 4, .int .i64 (0), .int .i64 (0)] #[.int .u8 4, .int .i64 (0), .int .i64 (0)] rfl rfl _ _ z6 (by show 0 + 3 ≤ 3; decide) (by kernel_rfl) (by kernel_rfl) (by kernel_rfl) ?_)
  exact bodyPost_ret (results_d1 rfl _ _ _ _ _ rfl (Blk.row z6 _) rfl) rfl ⟨ret_told HK.out HN.out HD.out, below_row hB6 (Nat.le_refl _) _⟩
set_option maxRecDepth 20000 in
set_option maxHeartbeats 1600000 in
theorem told_ge_l (s : ByteArray) (w : World) (h : 2 < s.size) (hs : s.size ≤ 1000) (hM : Mx w) (h4 : 4 ≤ s.size) (hsm : sameB (s.extract 0 4) bL = false) (hg : cutB (L s) gE = true) :
    Calls Tryd.prog 75 #[.string s] w fun e w' => e = .returned (.agg (tA s)) ∧ Below w.heap.size w w' := by
  have hb0 := d_box w dz
  have z0 : Blk (w.alloc (.cells dz 56)) w.heap.size 56 dz := Blk.new _ _ _
  have hM0 := hM.below hb0
  have hNm := fun w' => num_long s w' h
  have HK := Lib.hid (show tK s = 2 by unfold tK; rw [if_neg (by rw [hsm]; simp), if_pos hg])
  have HN := Lib.hid (show tN s = numV (BA (cutZ (L s) gE)) by unfold tN; rw [HK.out]; rfl)
  have HD := Lib.hid (show tD s = pickV (BA (cutA (L s) gE)) dayNs by unfold tD; rw [HK.out]; rfl)
  have hl1 := cut_len (L s) gE; have hl2 := cut_len (L s) lE
  rw [L_len] at hl1 hl2
  have hC1 := fun w' hM => cut_any s ⟨#[62, 61]⟩ w' hM (by omega)
  have hC2 := fun w' hM => cut_any s ⟨#[60, 61]⟩ w' hM (by omega)
  rw [show L ⟨#[62, 61]⟩ = gE from rfl, hg] at hC1
  have hZ := fun w' => number_any (BA (cutZ (L s) gE)) w'
  have hW := fun w' => wkday_any (BA (cutA (L s) gE)) w' (by rw [BA_size]; omega)
  have hS := fun w' => same_any (s.extract 0 4) bL w' (by simp; omega) (by decide)
  rw [hsm] at hS
  have h4' : ¬ (s.size : Int) < 4 := by omega
  clear hsm
  clear hg
  clear hl1 hl2
  go_enter Tryd.func75, Tryd.ntmps75
  go_wp2_with (first | (go_at_call 92; refine (hNm _).mono ?_; rintro e w1 ⟨rfl, rfl⟩) | (go_at_call 91; refine (hS _).mono ?_; rintro e w2 ⟨rfl, hb2⟩; have hB2 := hb0.trans (hb2.mono hb0.size); have z2 := z0.below hb2 z0.lt; have hM2 := hM0.below hb2))
  refine (hC1 _ hM2).mono ?_; rintro e w5 ⟨rfl, hb5⟩
  have hB5 := hB2.trans (hb5.mono hB2.size); have z5 := z2.below hb5 z2.lt; have hM5 := hM2.below hb5
  go_wp2_with fail
  refine (hZ _).mono ?_; rintro e w7 ⟨rfl, hw7⟩; subst hw7
  go_wp2_with fail
  refine (hW _).mono ?_; rintro e w8 ⟨rfl, hb8⟩
  have hB8 := hB5.trans (hb8.mono hB5.size); have z8 := z5.below hb8 z5.lt
  go_wp2_with (first | refine wpList_store_g rfl 56 _ _ rfl rfl _ 0 #[.int .u8 2, .int .i64 (numV (BA (cutZ (L s) gE))), .int .i64 (pickV (BA (cutA (L s) gE)) dayNs)] #[.int .u8 2, .int .i64 (numV (BA (cutZ (L s) gE))), .int .i64 (pickV (BA (cutA (L s) gE)) dayNs)] rfl rfl _ _ z8 (by show 0 + 3 ≤ 3; decide) (by kernel_rfl) (by kernel_rfl) (by kernel_rfl) ?_)
  exact bodyPost_ret (results_d1 rfl _ _ _ _ _ rfl (Blk.row z8 _) rfl) rfl ⟨ret_told HK.out HN.out HD.out, below_row hB8 (Nat.le_refl _) _⟩
set_option maxRecDepth 20000 in
set_option maxHeartbeats 1600000 in
theorem told_le_l (s : ByteArray) (w : World) (h : 2 < s.size) (hs : s.size ≤ 1000) (hM : Mx w) (h4 : 4 ≤ s.size) (hsm : sameB (s.extract 0 4) bL = false) (hg : cutB (L s) gE = false) (hl : cutB (L s) lE = true) :
    Calls Tryd.prog 75 #[.string s] w fun e w' => e = .returned (.agg (tA s)) ∧ Below w.heap.size w w' := by
  have hb0 := d_box w dz
  have z0 : Blk (w.alloc (.cells dz 56)) w.heap.size 56 dz := Blk.new _ _ _
  have hM0 := hM.below hb0
  have hNm := fun w' => num_long s w' h
  have HK := Lib.hid (show tK s = 3 by unfold tK; rw [if_neg (by rw [hsm]; simp), if_neg (by rw [hg]; decide), if_pos hl])
  have HN := Lib.hid (show tN s = numV (BA (cutZ (L s) lE)) by unfold tN; rw [HK.out]; rfl)
  have HD := Lib.hid (show tD s = pickV (BA (cutA (L s) lE)) dayNs by unfold tD; rw [HK.out]; rfl)
  have hl1 := cut_len (L s) gE; have hl2 := cut_len (L s) lE
  rw [L_len] at hl1 hl2
  have hC1 := fun w' hM => cut_any s ⟨#[62, 61]⟩ w' hM (by omega)
  have hC2 := fun w' hM => cut_any s ⟨#[60, 61]⟩ w' hM (by omega)
  rw [show L ⟨#[62, 61]⟩ = gE from rfl, hg] at hC1
  rw [show L ⟨#[60, 61]⟩ = lE from rfl, hl] at hC2
  have hZ := fun w' => number_any (BA (cutZ (L s) lE)) w'
  have hW := fun w' => wkday_any (BA (cutA (L s) lE)) w' (by rw [BA_size]; omega)
  have hS := fun w' => same_any (s.extract 0 4) bL w' (by simp; omega) (by decide)
  rw [hsm] at hS
  have h4' : ¬ (s.size : Int) < 4 := by omega
  clear hsm
  clear hg hl
  clear hl1 hl2
  go_enter Tryd.func75, Tryd.ntmps75
  go_wp2_with (first | (go_at_call 92; refine (hNm _).mono ?_; rintro e w1 ⟨rfl, rfl⟩) | (go_at_call 91; refine (hS _).mono ?_; rintro e w2 ⟨rfl, hb2⟩; have hB2 := hb0.trans (hb2.mono hb0.size); have z2 := z0.below hb2 z0.lt; have hM2 := hM0.below hb2))
  refine (hC1 _ hM2).mono ?_; rintro e w5 ⟨rfl, hb5⟩
  have hB5 := hB2.trans (hb5.mono hB2.size); have z5 := z2.below hb5 z2.lt; have hM5 := hM2.below hb5
  go_wp2_with fail
  refine (hC2 _ hM5).mono ?_; rintro e w6 ⟨rfl, hb6⟩
  have hB6 := hB5.trans (hb6.mono hB5.size); have z6 := z5.below hb6 z5.lt; have hM6 := hM5.below hb6
  go_wp2_with fail
  refine (hZ _).mono ?_; rintro e w7 ⟨rfl, hw7⟩; subst hw7
  go_wp2_with fail
  refine (hW _).mono ?_; rintro e w8 ⟨rfl, hb8⟩
  have hB8 := hB6.trans (hb8.mono hB6.size); have z8 := z6.below hb8 z6.lt
  go_wp2_with (first | refine wpList_store_g rfl 56 _ _ rfl rfl _ 0 #[.int .u8 3, .int .i64 (numV (BA (cutZ (L s) lE))), .int .i64 (pickV (BA (cutA (L s) lE)) dayNs)] #[.int .u8 3, .int .i64 (numV (BA (cutZ (L s) lE))), .int .i64 (pickV (BA (cutA (L s) lE)) dayNs)] rfl rfl _ _ z8 (by show 0 + 3 ≤ 3; decide) (by kernel_rfl) (by kernel_rfl) (by kernel_rfl) ?_)
  exact bodyPost_ret (results_d1 rfl _ _ _ _ _ rfl (Blk.row z8 _) rfl) rfl ⟨ret_told HK.out HN.out HD.out, below_row hB8 (Nat.le_refl _) _⟩
set_option maxRecDepth 20000 in
set_option maxHeartbeats 1600000 in
theorem told_none_l (s : ByteArray) (w : World) (h : 2 < s.size) (hs : s.size ≤ 1000) (hM : Mx w) (h4 : 4 ≤ s.size) (hsm : sameB (s.extract 0 4) bL = false) (hg : cutB (L s) gE = false) (hl : cutB (L s) lE = false) :
    Calls Tryd.prog 75 #[.string s] w fun e w' => e = .returned (.agg (tA s)) ∧ Below w.heap.size w w' := by
  have hb0 := d_box w dz
  have z0 : Blk (w.alloc (.cells dz 56)) w.heap.size 56 dz := Blk.new _ _ _
  have hM0 := hM.below hb0
  have hNm := fun w' => num_long s w' h
  have HK := Lib.hid (show tK s = 4 by unfold tK; rw [if_neg (by rw [hsm]; simp), if_neg (by rw [hg]; decide), if_neg (by rw [hl]; decide)])
  have HN := Lib.hid (show tN s = 0 by unfold tN; rw [HK.out]; rfl)
  have HD := Lib.hid (show tD s = 0 by unfold tD; rw [HK.out]; rfl)
  have hl1 := cut_len (L s) gE; have hl2 := cut_len (L s) lE
  rw [L_len] at hl1 hl2
  have hC1 := fun w' hM => cut_any s ⟨#[62, 61]⟩ w' hM (by omega)
  have hC2 := fun w' hM => cut_any s ⟨#[60, 61]⟩ w' hM (by omega)
  rw [show L ⟨#[62, 61]⟩ = gE from rfl, hg] at hC1
  rw [show L ⟨#[60, 61]⟩ = lE from rfl, hl] at hC2
  have hS := fun w' => same_any (s.extract 0 4) bL w' (by simp; omega) (by decide)
  rw [hsm] at hS
  have h4' : ¬ (s.size : Int) < 4 := by omega
  clear hsm
  clear hg hl
  clear hl1 hl2
  go_enter Tryd.func75, Tryd.ntmps75
  go_wp2_with (first | (go_at_call 92; refine (hNm _).mono ?_; rintro e w1 ⟨rfl, rfl⟩) | (go_at_call 91; refine (hS _).mono ?_; rintro e w2 ⟨rfl, hb2⟩; have hB2 := hb0.trans (hb2.mono hb0.size); have z2 := z0.below hb2 z0.lt; have hM2 := hM0.below hb2))
  refine (hC1 _ hM2).mono ?_; rintro e w5 ⟨rfl, hb5⟩
  have hB5 := hB2.trans (hb5.mono hB2.size); have z5 := z2.below hb5 z2.lt; have hM5 := hM2.below hb5
  go_wp2_with fail
  refine (hC2 _ hM5).mono ?_; rintro e w6 ⟨rfl, hb6⟩
  have hB6 := hB5.trans (hb6.mono hB5.size); have z6 := z5.below hb6 z5.lt; have hM6 := hM5.below hb6
  go_wp2_with (first | refine wpList_store_g rfl 56 _ _ rfl rfl _ 0 #[.int .u8 4, .int .i64 (0), .int .i64 (0)] #[.int .u8 4, .int .i64 (0), .int .i64 (0)] rfl rfl _ _ z6 (by show 0 + 3 ≤ 3; decide) (by kernel_rfl) (by kernel_rfl) (by kernel_rfl) ?_)
  exact bodyPost_ret (results_d1 rfl _ _ _ _ _ rfl (Blk.row z6 _) rfl) rfl ⟨ret_told HK.out HN.out HD.out, below_row hB6 (Nat.le_refl _) _⟩
theorem told_any (s : ByteArray) (w : World) (h : 2 < s.size) (hs : s.size ≤ 1000) (hM : Mx w) :
    Calls Tryd.prog 75 #[.string s] w fun e w' => e = .returned (.agg (tA s)) ∧ Below w.heap.size w w' := by
  cases hg : cutB (L s) gE <;> cases hl : cutB (L s) lE <;> by_cases h4 : s.size < 4
  · exact told_none_s s w h hs hM h4 hg hl
  · cases hsm : sameB (s.extract 0 4) bL
    · exact told_none_l s w h hs hM (by omega) hsm hg hl
    · exact told_last_any s w h hs hM (by omega) hsm
  · exact told_le_s s w h hs hM h4 hg hl
  · cases hsm : sameB (s.extract 0 4) bL
    · exact told_le_l s w h hs hM (by omega) hsm hg hl
    · exact told_last_any s w h hs hM (by omega) hsm
  · exact told_ge_s s w h hs hM h4 hg
  · cases hsm : sameB (s.extract 0 4) bL
    · exact told_ge_l s w h hs hM (by omega) hsm hg
    · exact told_last_any s w h hs hM (by omega) hsm
  · exact told_ge_s s w h hs hM h4 hg
  · cases hsm : sameB (s.extract 0 4) bL
    · exact told_ge_l s w h hs hM (by omega) hsm hg
    · exact told_last_any s w h hs hM (by omega) hsm
def pE (s : ByteArray) : Int := if dE (tK s) (tN s) (tD s) = 0 then 0 else 4
theorem dE_02 (k n d : Int) : dE k n d = 0 ∨ dE k n d = 2 := by unfold dE; split <;> simp
set_option maxRecDepth 20000 in
set_option maxHeartbeats 1600000 in
theorem parse_any (s : ByteArray) (w : World) (h : 2 < s.size) (hs : s.size ≤ 1000) (hM : Mx w) :
    Calls Tryd.prog 40 #[.string s] w fun e w' => e = .returned (.tuple #[.agg (if dE (tK s) (tN s) (tD s) = 0 then tA s else dz), .int .i64 (pE s)]) ∧ Below w.heap.size w w' := by
  have hb0 := d_box w dz
  have z0 : Blk (w.alloc (.cells dz 56)) w.heap.size 56 dz := Blk.new _ _ _
  have hM0 := hM.below hb0
  have hTo := told_any s _ h hs hM0
  have hC := fun w' => dchk_any (tK s) (tN s) (tD s) w' (tK_bd s)
  rcases dE_02 (tK s) (tN s) (tD s) with hE | hE
  · have HA := Lib.hid (show (if dE (tK s) (tN s) (tD s) = 0 then tA s else dz) = tA s by rw [if_pos hE])
    have HP := Lib.hid (show pE s = 0 by unfold pE; rw [if_pos hE])
    rw [hE] at hC
    rw [HA.out, HP.out]
    unfold tA at hTo ⊢
    clear hE HA HP
    generalize tK s = K at *
    generalize tN s = N at *
    generalize tD s = D at *
    go_enter Tryd.func40, Tryd.ntmps40
    go_wp2_with (first
      | (go_at_call 75; refine hTo.mono ?_; rintro e w1 ⟨rfl, hb1⟩; have hB1 := hb0.trans (hb1.mono hb0.size); have z1 := z0.below hb1 z0.lt; have hB2 := hB1.alloc hB1.size (.cells #[.int .u8 K, .int .i64 N, .int .i64 D] 56); have z2 := z1.alloc (.cells #[.int .u8 K, .int .i64 N, .int .i64 D] 56); have y2 := Blk.new w1 56 #[.int .u8 K, .int .i64 N, .int .i64 D])
      | refine wpList_store_new rfl 56 _ _ rfl rfl w1.heap.size #[.int .u8 K, .int .i64 N, .int .i64 D] rfl rfl _ dz w1 rfl rfl rfl (by kernel_rfl) (by kernel_rfl) ?_
      | refine wpList_row_g rfl 56 _ rfl _ rfl _ _ _ _ y2 Tryd.underlying56 rfl (by kernel_rfl) ?_
      | refine wpList_row_g rfl 56 _ rfl _ rfl _ _ _ _ y3 Tryd.underlying56 rfl (by kernel_rfl) ?_
      | (go_at_call 66; refine (hC _).mono ?_; rintro e w3 ⟨rfl, hb3⟩; have hB3 := hB2.trans (hb3.mono hB2.size); have z3 := z2.below hb3 z2.lt; have y3 := y2.below hb3 y2.lt)
      | refine wpList_store_g rfl 56 _ _ rfl rfl _ 0 #[.int .u8 K, .int .i64 N, .int .i64 D] #[.int .u8 K, .int .i64 N, .int .i64 D] rfl rfl _ _ z3 (by show 0 + 3 ≤ 3; decide) (by kernel_rfl) (by kernel_rfl) (by kernel_rfl) ?_)
    exact bodyPost_ret (results_d2 rfl _ _ _ _ _ _ rfl rfl (Blk.row z3 _) rfl) rfl ⟨rfl, below_row hB3 (Nat.le_refl _) _⟩
  · have hE0 : ¬ dE (tK s) (tN s) (tD s) = 0 := by rw [hE]; decide
    have HA := Lib.hid (show (if dE (tK s) (tN s) (tD s) = 0 then tA s else dz) = dz by rw [if_neg hE0])
    have HP := Lib.hid (show pE s = 4 by unfold pE; rw [if_neg hE0])
    rw [hE] at hC
    rw [HA.out, HP.out]
    unfold tA at hTo
    clear hE HA HP hE0
    generalize tK s = K at *
    generalize tN s = N at *
    generalize tD s = D at *
    go_enter Tryd.func40, Tryd.ntmps40
    go_wp2_with (first
      | (go_at_call 75; refine hTo.mono ?_; rintro e w1 ⟨rfl, hb1⟩; have hB1 := hb0.trans (hb1.mono hb0.size); have z1 := z0.below hb1 z0.lt; have hB2 := hB1.alloc hB1.size (.cells #[.int .u8 K, .int .i64 N, .int .i64 D] 56); have z2 := z1.alloc (.cells #[.int .u8 K, .int .i64 N, .int .i64 D] 56); have y2 := Blk.new w1 56 #[.int .u8 K, .int .i64 N, .int .i64 D])
      | refine wpList_store_new rfl 56 _ _ rfl rfl w1.heap.size #[.int .u8 K, .int .i64 N, .int .i64 D] rfl rfl _ dz w1 rfl rfl rfl (by kernel_rfl) (by kernel_rfl) ?_
      | refine wpList_row_g rfl 56 _ rfl _ rfl _ _ _ _ y2 Tryd.underlying56 rfl (by kernel_rfl) ?_
      | (go_at_call 66; refine (hC _).mono ?_; rintro e w3 ⟨rfl, hb3⟩; have hB3 := hB2.trans (hb3.mono hB2.size); have z3 := z2.below hb3 z2.lt)
      | refine wpList_store_g rfl 56 _ _ rfl rfl _ 0 dz dz rfl rfl _ _ z3 (by show 0 + 3 ≤ 3; decide) (by kernel_rfl) (by kernel_rfl) (by kernel_rfl) ?_)
    exact bodyPost_ret (results_d2 rfl _ _ _ _ _ _ rfl rfl (Blk.row z3 _) rfl) rfl ⟨rfl, below_row hB3 (Nat.le_refl _) _⟩
abbrev nT (n : Nat) : ByteArray := BA (Lib.decDigits n)
theorem nT_size {n : Nat} (h : n < 100) : (nT n).size ≤ 2 := by
  show (Lib.decDigits n).length ≤ 2
  unfold Lib.decDigits
  split
  · simp
  · unfold Lib.decDigits
    rw [dif_pos (by omega)]; simp
theorem wt_size (d : Int) (h0 : 0 ≤ d) (h6 : d ≤ 6) : (wtV d).size = 3 := by
  have hd : d = 0 ∨ d = 1 ∨ d = 2 ∨ d = 3 ∨ d = 4 ∨ d = 5 ∨ d = 6 := by omega
  rcases hd with rfl | rfl | rfl | rfl | rfl | rfl | rfl <;> rfl
def frT (n : Nat) (d : Int) : ByteArray := wtV d ++ ⟨#[62, 61]⟩ ++ nT n
set_option maxRecDepth 20000 in
set_option maxHeartbeats 3200000 in
theorem text_from (n : Nat) (d : Int) (w : World) (h1 : 1 ≤ n) (h2 : n ≤ 31) (d0 : 0 ≤ d) (d6 : d ≤ 6) :
    Calls Tryd.prog 37 #[dayV 2 n d] w fun e w' => e = .returned (.tuple #[.string (frT n d), .int .i64 0]) ∧ Below w.heap.size w w' := by
  have hb0 := d_box w #[.int .u8 2, .int .i64 n, .int .i64 d]
  have z0 : Blk (w.alloc (.cells #[.int .u8 2, .int .i64 n, .int .i64 d] 56)) w.heap.size 56 #[.int .u8 2, .int .i64 n, .int .i64 d] := Blk.new _ _ _
  have hC := fun w' => dchk_any 2 n d w' (by decide)
  rw [dE_yes ⟨by decide, by show (1 : Int) ≤ n; omega, by show (n : Int) ≤ 31; omega, d0, by show d ≤ 6; omega⟩] at hC
  have hI := fun w' => Tryd.strconv_Itoa_small n (by omega) w'
  have hW := fun w' => text_any d w'
  have s1 := wt_size d d0 d6
  have s2 := nT_size (show n < 100 by omega)
  have HF := Lib.hid (show frT n d = wtV d ++ ⟨#[62, 61]⟩ ++ nT n from rfl)
  unfold nT BA at s2 HF
  generalize wtV d = F at *
  generalize (⟨(Lib.decDigits n).toArray⟩ : ByteArray) = X at *
  generalize frT n d = OUT at *
  have s1' : F.size ≤ 3 := by omega
  have s1'' : 3 ≤ F.size := by omega
  clear s1
  go_enter Tryd.func37, Tryd.ntmps37
  go_wp2_with (first
    | refine wpList_row_g rfl 56 _ rfl _ rfl _ _ _ _ z0 Tryd.underlying56 rfl (by kernel_rfl) ?_
    | (go_at_call 66; refine (hC _).mono ?_; rintro e w3 ⟨rfl, hb3⟩; have hB3 := hb0.trans (hb3.mono hb0.size); have z3 := z0.below hb3 z0.lt; have q0 : w3.cell? ⟨w.heap.size, 0, none⟩ = some (.int .u8 2) := z3.cell 0; have q1 : w3.cell? ⟨w.heap.size, 1, none⟩ = some (.int .i64 n) := z3.cell 1; have q2 : w3.cell? ⟨w.heap.size, 2, none⟩ = some (.int .i64 d) := z3.cell 2))
  clear hb3 z0 hb0 hC q0
  have sz1 : ¬ 9223372036854775807 < F.size + 2 := by omega
  have sz2 : ¬ 9223372036854775807 < F.size + 2 + X.size := by omega
  go_region_held3 (fun w' => Below w.heap.size w w' ∧ w'.cell? ⟨w.heap.size, 1, none⟩ = some (.int .i64 n) ∧ w'.cell? ⟨w.heap.size, 2, none⟩ = some (.int .i64 d))
    (first | assumption | ((go_split_ands; (refine ⟨?_, ?_, ?_⟩ <;> first | assumption | exact (hbx.cell (World.block_lt_of_cell? _ _ (by assumption))).trans (by assumption) | exact Below.trans (by assumption) (hbx.mono (Below.size (by assumption))) | exact Below.drew (by assumption)))))
    (first
      | (go_at_call 38; refine (hW _).mono ?_; rintro e w' ⟨rfl, hbx⟩)
      | (go_at_call 72; refine (hI _).mono ?_; rintro e w' ⟨rfl, hwx⟩; subst hwx))
  all_goals
    go_split_ands
    go_wp2_with fail
    go_ret2
    exact ⟨by rw [HF.out]; rfl, by assumption⟩
end Go.Proofs.YtginidedeefcdaaDoor.Wk
