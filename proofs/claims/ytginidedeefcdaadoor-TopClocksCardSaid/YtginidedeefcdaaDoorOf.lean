/-
  ABBR, WALKED: an offset as text.
-/
import Derived.Test.YtginidedeefcdaaDoorRows
import Derived.Test.YtginidedeefcdaaDoorWords
import Derived.Test.YtginidedeefcdaaDoorAbM
import Derived.WalkKit
import Derived.WalkSpells
import Derived.WalkLawsBesides
import Derived.Below
import Derived.ProofKit
import Derived.Outline
import Derived.Lib.Hide
import Derived.Lib.SmallJoins
import Derived.Deep.DeepCutAuto
import Derived.Deep.RegionLaw
import Derived.Lib.Strings
import Derived.BigQuiet
import Derived.Deep.QuietTactic
import Derived.Lib.Builder
import Derived.Lib.AppendStr
import Derived.Lib.BufferRead
import Derived.Laws.OwnMore
import Derived.OwnWalk
namespace Go.Proofs.YtginidedeefcdaaDoor.Ab
open Go.ChangeShapes Go.WideShapes Go.ChangeAt Go.RowKit
open Go.Proofs.YtginidedeefcdaaDoor
open Go.Proofs.YtginidedeefcdaaDoor.Wd
open Go.Lib (byteCells)
abbrev L (s : ByteArray) : List UInt8 := s.data.toList
abbrev B (l : List UInt8) : ByteArray := ⟨l.toArray⟩
theorem reads_two (w : World) (t : TypeId) (u v : Value) : Reads (w.alloc (.cells #[u, v] t)) (w.heap.size + 1) 1 (some ⟨w.heap.size, 0, none⟩) 2 [u, v] :=
  ⟨rfl, fun _ => ⟨_, rfl, Nat.lt_succ_self _, fun j x hx => by
    match j, hx with
    | 0, hx => simp at hx; subst hx; simp [Addr.add]
    | 1, hx => simp at hx; subst hx; simp [Addr.add]⟩⟩
set_option linter.unusedVariables false
theorem byteCells_app (a b : List UInt8) : byteCells (a ++ b) = byteCells a ++ byteCells b := by simp [byteCells]
theorem byte_info : (Tryd.prog.info? 5).map (fun i => (i.zero, i.size, i.bytes)) = some (some (.int .u8 0), 1, 1) := by kernel_rfl
theorem own_lt {w : World} {base : Nat} {e : TypeId} {size n : Nat} {v : Value} {xs : List Value} (h : w.ownsRow base e size v n xs) : ∀ g, v.ownBlock = some g → base ≤ g ∧ g < w.heap.size := by
  intro g hg
  rcases h.2 with ⟨rfl, _⟩ | ⟨g', cap, cur, rfl, h2, h3, _⟩
  · simp [Value.ownBlock] at hg
  · simp [Value.ownBlock] at hg; subst hg; exact ⟨h2, (Array.getElem?_eq_some_iff.1 h3).1⟩
theorem own_ge {w : World} {base : Nat} {e : TypeId} {size n : Nat} {v : Value} {xs : List Value} (h : w.ownsRow base e size v n xs) : ∀ g, v.ownBlock = some g → base ≤ g := fun g hg => (own_lt h g hg).1
theorem int_two (t : IntKind) (b c : Int) : ∀ u ∈ [Value.int t b, Value.int t c], u.oneCell' = true := by
  intro u hu; simp at hu; rcases hu with rfl | rfl <;> rfl
theorem conv_row {w : World} {base : Nat} {v : Value} {l : List UInt8} (h : w.ownsRow base 5 1 v l.length (byteCells l)) :
    (convert 112 9 v).run Tryd.prog w = .ok (.string ⟨l.toArray⟩) w := by
  rcases h.2 with ⟨rfl, h0⟩ | ⟨g, cap, cur, rfl, _, h3, _, _, _, h4⟩
  · have : l = [] := List.eq_nil_of_length_eq_zero h0
    subst this
    exact Lib.run_convert_nil_bytes w _ _ _ 0 Tryd.underlying112 Tryd.underlying5 Tryd.underlying9
  · exact run_convert_bytes_back w _ _ _ _ cap l Tryd.underlying112 Tryd.underlying5 Tryd.underlying9 (Lib.bytes_of_row h3 (by simpa using h4))
set_option maxRecDepth 20000 in
def nums (a : Nat) : List Nat := [a / 3600, a / 60 % 60, a % 60]
def numk (a k : Nat) : Nat := (nums a).getD k 0
theorem num_at {w : World} {g : Nat} {t : TypeId} {a : Nat} {z : Int} (hz : z = (a : Int)) (h : Blk w g t #[.int .i64 (z / 3600), .int .i64 (z / 60 % 60), .int .i64 (z % 60)]) (k : Nat) (hk : k < 3) :
    w.cell? ⟨g, k, none⟩ = some (.int .i64 (numk a k : Nat)) := by
  subst hz
  rw [h.cell k]
  have : k = 0 ∨ k = 1 ∨ k = 2 := by omega
  rcases this with rfl | rfl | rfl <;> simp [numk, nums]
theorem nums_take (a k : Nat) (hk : k < 3) : (nums a).take (k + 1) = (nums a).take k ++ [numk a k] := by
  have : k = 0 ∨ k = 1 ∨ k = 2 := by omega
  rcases this with rfl | rfl | rfl <;> rfl
theorem nums_lt {a : Nat} (h : a < 360000) (k : Nat) (hk : k < 3) : numk a k < 100 := by
  have : k = 0 ∨ k = 1 ∨ k = 2 := by omega
  rcases this with rfl | rfl | rfl <;> simp [numk, nums] <;> omega
theorem two_cells (z : Nat) (h : z < 100) : [Value.int .u8 (48 + (z : Int) / 10), Value.int .u8 (48 + (z : Int) % 10)] = byteCells (two z) := by
  unfold two
  simp only [byteCells, List.map_cons, List.map_nil, UInt8.toNat_ofNat']
  have e1 : (((48 + z / 10) % 2 ^ 8 : Nat) : Int) = 48 + (z : Int) / 10 := by omega
  have e2 : (((48 + z % 10) % 2 ^ 8 : Nat) : Int) = 48 + (z : Int) % 10 := by omega
  rw [e1, e2]
theorem ret_off {off : Int} {l : List UInt8} (h : offT off = l) (h2 : offE off = 0) : Ending.returned (.tuple #[.string ⟨l.toArray⟩, .int .i64 0]) = Ending.returned (.tuple #[.string (B (offT off)), .int .i64 (offE off)]) := by rw [h, h2]
theorem off_no {off : Int} (h : offB off = false) : Ending.returned (.tuple #[.string ⟨#[]⟩, .int .i64 1]) = Ending.returned (.tuple #[.string (B (offT off)), .int .i64 (offE off)]) := by
  unfold offT offE; rw [h]; rfl
set_option maxRecDepth 20000 in
set_option maxHeartbeats 3200000 in
theorem offset_pos (a : Nat) (z : Int) (hz : z = (a : Int)) (w : World) (h1 : 0 ≤ z) (h2 : z < 360000) (ha2 : a < 360000) :
    Calls Tryd.prog 67 #[.int .i64 z] w fun e w' => e = .returned (.tuple #[.string (B (offT z)), .int .i64 (offE z)]) ∧ Below w.heap.size w w' := by
  obtain ⟨i0, hi0, hz0, hz1, hz2⟩ := info_parts byte_info
  have hob : offB z = true := by unfold offB; simp; omega
  have HO := Lib.hid (show offT z = 43 :: body a by unfold offT; rw [hob, if_pos rfl]; unfold sg; rw [if_neg (by omega)]; congr 2 <;> omega)
  have HE := Lib.hid (show offE z = 0 by unfold offE; rw [hob]; rfl)
  have HZ := Lib.hid hz
  clear hob hz
  have HA2 := Lib.hid ha2
  clear ha2
  have e1 : ¬ z ≤ -360000 := by omega
  have e2 : ¬ (360000 : Int) ≤ z := by omega
  have e3 : ¬ z < 0 := by omega
  go_enter Tryd.func67, Tryd.ntmps67
  go_wp2
  · have f1 : a % 60 ≠ 0 := by have hz := HZ.out; have q : (z % 60 != 0) = true := (by assumption); simp at q; omega
    have hbk := Blk.new (w.alloc (.cells #[.int .u8 43] 5)) 113 #[.int .i64 (z / 3600), .int .i64 (z / 60 % 60), .int .i64 (z % 60)]
    have hown0 := (World.ownsRow_lit (base := w.heap.size) (e := 5) (size := 1) w #[.int .u8 43] 1 (Nat.le_refl _) (by unfold maxLen; omega) rfl).alloc (.cells #[.int .i64 (z / 3600), .int .i64 (z / 60 % 60), .int .i64 (z % 60)] 113)
    rw [World.size_alloc] at hbk
    go_loopw [4, 39] (fun v i w' => ∃ k : Nat, i = .int .i64 k ∧ k ≤ 3 ∧ w'.ownsRow w.heap.size 5 1 v (1 + 2 * k) (byteCells (43 :: ((nums a).take k).flatMap two)) ∧ Blk w' (w.heap.size + 1) 113 #[.int .i64 (z / 3600), .int .i64 (z / 60 % 60), .int .i64 (z % 60)] ∧ Below w.heap.size w w') (fun _ i _ => 3 - (intOf i).toNat)
    case atStart => exact ⟨0, rfl, Nat.zero_le _, hown0, hbk, ((Below.refl _ _).alloc (Nat.le_refl _) _).alloc (by simp) _⟩
    case round =>
      obtain ⟨k, rfl, hk, hown, hb, hbw⟩ := hrel
      have hsz := hbw.size
      by_cases hlt : k < 3
      · have hlt' : (k : Int) < 3 := by omega
        have hcell := num_at HZ.out hb k (by omega)
        have hT := Lib.hid (nums_take a k (by omega))
        have hz100 := nums_lt HA2.out k (by omega)
        generalize numk a k = y at *
        have v1 : 0 ≤ (y : Int) / 10 ∧ (y : Int) / 10 ≤ 9 := by omega
        have v2 : 0 ≤ (y : Int) % 10 ∧ (y : Int) % 10 ≤ 9 := by omega
        go_wp2_with (at_builtin; refine wpList_append_any _ rfl (.tmp 43) (.tmp 52) 112 rfl w.heap.size 5 i0 _ 1 1 Tryd.underlying112 hi0 hz0 hz1 hz2 rfl (by decide) _ (1 + 2 * k) _ rfl (hown.alloc _) _ _ 2 2 [.int .u8 _, .int .u8 _] rfl (reads_two _ _ _ _) (int_two _ _ _) (by unfold maxLen; omega) (by omega) (by simp; omega) ?_; intro v1 w1 hown1 hg1 _)
        have hb1 : Below w.heap.size w w1 := (hbw.alloc hbw.size _).grown hg1 (by simp; omega) (fun g hg => own_ge hown g hg)
        have hbb := (hb.alloc (.cells #[.int .u8 _, .int .u8 _] _)).grown hg1 (fun e => own_blk_ne hown hb (by decide) e.symm)
        rw [two_cells y (by omega), ← byteCells_app] at hown1
        clear hg1 hb
        go_roundw
        case rel => exact ⟨k + 1, by go_num, by omega, by rw [hT.out, List.flatMap_append]; simpa [Nat.mul_add, Nat.add_assoc, List.flatMap] using hown1, hbb, hb1⟩
        case measure => simp [intOf]; omega
      · obtain rfl : k = 3 := by omega
        have hlt' : ¬ ((3 : Nat) : Int) < 3 := by omega
        have hlen := Lib.hid hown.1
        have hcv := conv_row (l := 43 :: ((nums a).take 3).flatMap two) (by simpa [nums, two_len] using hown)
        go_wp2
        go_ret2
        exact ⟨ret_off (by have hz := HZ.out; first | (rw [HO.out]; unfold body; first | (rw [if_pos (by omega)]; rfl) | (rw [if_neg (by omega), if_pos (by omega)]; rfl) | (rw [if_neg (by omega), if_neg (by omega)]; rfl))) HE.out, hbw⟩
  · have f1 : a % 60 = 0 := by have hz := HZ.out; have q : (z % 60 != 0) = false := (by assumption); simp at q; omega
    have f2 : a % 3600 ≠ 0 := by have hz := HZ.out; have q : (z % 3600 != 0) = true := (by assumption); simp at q; omega
    have hbk := Blk.new (w.alloc (.cells #[.int .u8 43] 5)) 113 #[.int .i64 (z / 3600), .int .i64 (z / 60 % 60), .int .i64 (z % 60)]
    have hown0 := (World.ownsRow_lit (base := w.heap.size) (e := 5) (size := 1) w #[.int .u8 43] 1 (Nat.le_refl _) (by unfold maxLen; omega) rfl).alloc (.cells #[.int .i64 (z / 3600), .int .i64 (z / 60 % 60), .int .i64 (z % 60)] 113)
    rw [World.size_alloc] at hbk
    go_loopw [4, 39] (fun v i w' => ∃ k : Nat, i = .int .i64 k ∧ k ≤ 2 ∧ w'.ownsRow w.heap.size 5 1 v (1 + 2 * k) (byteCells (43 :: ((nums a).take k).flatMap two)) ∧ Blk w' (w.heap.size + 1) 113 #[.int .i64 (z / 3600), .int .i64 (z / 60 % 60), .int .i64 (z % 60)] ∧ Below w.heap.size w w') (fun _ i _ => 2 - (intOf i).toNat)
    case atStart => exact ⟨0, rfl, Nat.zero_le _, hown0, hbk, ((Below.refl _ _).alloc (Nat.le_refl _) _).alloc (by simp) _⟩
    case round =>
      obtain ⟨k, rfl, hk, hown, hb, hbw⟩ := hrel
      have hsz := hbw.size
      by_cases hlt : k < 2
      · have hlt' : (k : Int) < 2 := by omega
        have hcell := num_at HZ.out hb k (by omega)
        have hT := Lib.hid (nums_take a k (by omega))
        have hz100 := nums_lt HA2.out k (by omega)
        generalize numk a k = y at *
        have v1 : 0 ≤ (y : Int) / 10 ∧ (y : Int) / 10 ≤ 9 := by omega
        have v2 : 0 ≤ (y : Int) % 10 ∧ (y : Int) % 10 ≤ 9 := by omega
        go_wp2_with (at_builtin; refine wpList_append_any _ rfl (.tmp 43) (.tmp 52) 112 rfl w.heap.size 5 i0 _ 1 1 Tryd.underlying112 hi0 hz0 hz1 hz2 rfl (by decide) _ (1 + 2 * k) _ rfl (hown.alloc _) _ _ 2 2 [.int .u8 _, .int .u8 _] rfl (reads_two _ _ _ _) (int_two _ _ _) (by unfold maxLen; omega) (by omega) (by simp; omega) ?_; intro v1 w1 hown1 hg1 _)
        have hb1 : Below w.heap.size w w1 := (hbw.alloc hbw.size _).grown hg1 (by simp; omega) (fun g hg => own_ge hown g hg)
        have hbb := (hb.alloc (.cells #[.int .u8 _, .int .u8 _] _)).grown hg1 (fun e => own_blk_ne hown hb (by decide) e.symm)
        rw [two_cells y (by omega), ← byteCells_app] at hown1
        clear hg1 hb
        go_roundw
        case rel => exact ⟨k + 1, by go_num, by omega, by rw [hT.out, List.flatMap_append]; simpa [Nat.mul_add, Nat.add_assoc, List.flatMap] using hown1, hbb, hb1⟩
        case measure => simp [intOf]; omega
      · obtain rfl : k = 2 := by omega
        have hlt' : ¬ ((2 : Nat) : Int) < 2 := by omega
        have hlen := Lib.hid hown.1
        have hcv := conv_row (l := 43 :: ((nums a).take 2).flatMap two) (by simpa [nums, two_len] using hown)
        go_wp2
        go_ret2
        exact ⟨ret_off (by have hz := HZ.out; first | (rw [HO.out]; unfold body; first | (rw [if_pos (by omega)]; rfl) | (rw [if_neg (by omega), if_pos (by omega)]; rfl) | (rw [if_neg (by omega), if_neg (by omega)]; rfl))) HE.out, hbw⟩
  · have f1 : a % 60 = 0 := by have hz := HZ.out; have q : (z % 60 != 0) = false := (by assumption); simp at q; omega
    have f2 : a % 3600 = 0 := by have hz := HZ.out; have q : (z % 3600 != 0) = false := (by assumption); simp at q; omega
    have hbk := Blk.new (w.alloc (.cells #[.int .u8 43] 5)) 113 #[.int .i64 (z / 3600), .int .i64 (z / 60 % 60), .int .i64 (z % 60)]
    have hown0 := (World.ownsRow_lit (base := w.heap.size) (e := 5) (size := 1) w #[.int .u8 43] 1 (Nat.le_refl _) (by unfold maxLen; omega) rfl).alloc (.cells #[.int .i64 (z / 3600), .int .i64 (z / 60 % 60), .int .i64 (z % 60)] 113)
    rw [World.size_alloc] at hbk
    go_loopw [4, 39] (fun v i w' => ∃ k : Nat, i = .int .i64 k ∧ k ≤ 1 ∧ w'.ownsRow w.heap.size 5 1 v (1 + 2 * k) (byteCells (43 :: ((nums a).take k).flatMap two)) ∧ Blk w' (w.heap.size + 1) 113 #[.int .i64 (z / 3600), .int .i64 (z / 60 % 60), .int .i64 (z % 60)] ∧ Below w.heap.size w w') (fun _ i _ => 1 - (intOf i).toNat)
    case atStart => exact ⟨0, rfl, Nat.zero_le _, hown0, hbk, ((Below.refl _ _).alloc (Nat.le_refl _) _).alloc (by simp) _⟩
    case round =>
      obtain ⟨k, rfl, hk, hown, hb, hbw⟩ := hrel
      have hsz := hbw.size
      by_cases hlt : k < 1
      · have hlt' : (k : Int) < 1 := by omega
        have hcell := num_at HZ.out hb k (by omega)
        have hT := Lib.hid (nums_take a k (by omega))
        have hz100 := nums_lt HA2.out k (by omega)
        generalize numk a k = y at *
        have v1 : 0 ≤ (y : Int) / 10 ∧ (y : Int) / 10 ≤ 9 := by omega
        have v2 : 0 ≤ (y : Int) % 10 ∧ (y : Int) % 10 ≤ 9 := by omega
        go_wp2_with (at_builtin; refine wpList_append_any _ rfl (.tmp 43) (.tmp 52) 112 rfl w.heap.size 5 i0 _ 1 1 Tryd.underlying112 hi0 hz0 hz1 hz2 rfl (by decide) _ (1 + 2 * k) _ rfl (hown.alloc _) _ _ 2 2 [.int .u8 _, .int .u8 _] rfl (reads_two _ _ _ _) (int_two _ _ _) (by unfold maxLen; omega) (by omega) (by simp; omega) ?_; intro v1 w1 hown1 hg1 _)
        have hb1 : Below w.heap.size w w1 := (hbw.alloc hbw.size _).grown hg1 (by simp; omega) (fun g hg => own_ge hown g hg)
        have hbb := (hb.alloc (.cells #[.int .u8 _, .int .u8 _] _)).grown hg1 (fun e => own_blk_ne hown hb (by decide) e.symm)
        rw [two_cells y (by omega), ← byteCells_app] at hown1
        clear hg1 hb
        go_roundw
        case rel => exact ⟨k + 1, by go_num, by omega, by rw [hT.out, List.flatMap_append]; simpa [Nat.mul_add, Nat.add_assoc, List.flatMap] using hown1, hbb, hb1⟩
        case measure => simp [intOf]; omega
      · obtain rfl : k = 1 := by omega
        have hlt' : ¬ ((1 : Nat) : Int) < 1 := by omega
        have hlen := Lib.hid hown.1
        have hcv := conv_row (l := 43 :: ((nums a).take 1).flatMap two) (by simpa [nums, two_len] using hown)
        go_wp2
        go_ret2
        exact ⟨ret_off (by have hz := HZ.out; first | (rw [HO.out]; unfold body; first | (rw [if_pos (by omega)]; rfl) | (rw [if_neg (by omega), if_pos (by omega)]; rfl) | (rw [if_neg (by omega), if_neg (by omega)]; rfl))) HE.out, hbw⟩
set_option maxRecDepth 20000 in
set_option maxHeartbeats 3200000 in
theorem offset_neg (a : Nat) (z : Int) (hz : z = (a : Int)) (w : World) (h1 : 0 < z) (h2 : z < 360000) (ha2 : a < 360000) :
    Calls Tryd.prog 67 #[.int .i64 (-z)] w fun e w' => e = .returned (.tuple #[.string (B (offT (-z))), .int .i64 (offE (-z))]) ∧ Below w.heap.size w w' := by
  obtain ⟨i0, hi0, hz0, hz1, hz2⟩ := info_parts byte_info
  have hob : offB (-z) = true := by unfold offB; simp; omega
  have HO := Lib.hid (show offT (-z) = 45 :: body a by unfold offT; rw [hob, if_pos rfl]; unfold sg; rw [if_pos (by omega)]; congr 2 <;> omega)
  have HE := Lib.hid (show offE (-z) = 0 by unfold offE; rw [hob]; rfl)
  have HZ := Lib.hid hz
  clear hob hz
  have HA2 := Lib.hid ha2
  clear ha2
  have e1 : ¬ (-z) ≤ -360000 := by omega
  have e2 : ¬ (360000 : Int) ≤ (-z) := by omega
  have e3 : (-z) < 0 := by omega
  go_enter Tryd.func67, Tryd.ntmps67
  go_wp2
  · have f1 : a % 60 ≠ 0 := by have hz := HZ.out; have q : (z % 60 != 0) = true := (by assumption); simp at q; omega
    have hbk := Blk.new (w.alloc (.cells #[.int .u8 45] 5)) 113 #[.int .i64 (z / 3600), .int .i64 (z / 60 % 60), .int .i64 (z % 60)]
    have hown0 := (World.ownsRow_lit (base := w.heap.size) (e := 5) (size := 1) w #[.int .u8 45] 1 (Nat.le_refl _) (by unfold maxLen; omega) rfl).alloc (.cells #[.int .i64 (z / 3600), .int .i64 (z / 60 % 60), .int .i64 (z % 60)] 113)
    rw [World.size_alloc] at hbk
    go_loopw [4, 39] (fun v i w' => ∃ k : Nat, i = .int .i64 k ∧ k ≤ 3 ∧ w'.ownsRow w.heap.size 5 1 v (1 + 2 * k) (byteCells (45 :: ((nums a).take k).flatMap two)) ∧ Blk w' (w.heap.size + 1) 113 #[.int .i64 (z / 3600), .int .i64 (z / 60 % 60), .int .i64 (z % 60)] ∧ Below w.heap.size w w') (fun _ i _ => 3 - (intOf i).toNat)
    case atStart => exact ⟨0, rfl, Nat.zero_le _, hown0, hbk, ((Below.refl _ _).alloc (Nat.le_refl _) _).alloc (by simp) _⟩
    case round =>
      obtain ⟨k, rfl, hk, hown, hb, hbw⟩ := hrel
      have hsz := hbw.size
      by_cases hlt : k < 3
      · have hlt' : (k : Int) < 3 := by omega
        have hcell := num_at HZ.out hb k (by omega)
        have hT := Lib.hid (nums_take a k (by omega))
        have hz100 := nums_lt HA2.out k (by omega)
        generalize numk a k = y at *
        have v1 : 0 ≤ (y : Int) / 10 ∧ (y : Int) / 10 ≤ 9 := by omega
        have v2 : 0 ≤ (y : Int) % 10 ∧ (y : Int) % 10 ≤ 9 := by omega
        go_wp2_with (at_builtin; refine wpList_append_any _ rfl (.tmp 43) (.tmp 52) 112 rfl w.heap.size 5 i0 _ 1 1 Tryd.underlying112 hi0 hz0 hz1 hz2 rfl (by decide) _ (1 + 2 * k) _ rfl (hown.alloc _) _ _ 2 2 [.int .u8 _, .int .u8 _] rfl (reads_two _ _ _ _) (int_two _ _ _) (by unfold maxLen; omega) (by omega) (by simp; omega) ?_; intro v1 w1 hown1 hg1 _)
        have hb1 : Below w.heap.size w w1 := (hbw.alloc hbw.size _).grown hg1 (by simp; omega) (fun g hg => own_ge hown g hg)
        have hbb := (hb.alloc (.cells #[.int .u8 _, .int .u8 _] _)).grown hg1 (fun e => own_blk_ne hown hb (by decide) e.symm)
        rw [two_cells y (by omega), ← byteCells_app] at hown1
        clear hg1 hb
        go_roundw
        case rel => exact ⟨k + 1, by go_num, by omega, by rw [hT.out, List.flatMap_append]; simpa [Nat.mul_add, Nat.add_assoc, List.flatMap] using hown1, hbb, hb1⟩
        case measure => simp [intOf]; omega
      · obtain rfl : k = 3 := by omega
        have hlt' : ¬ ((3 : Nat) : Int) < 3 := by omega
        have hlen := Lib.hid hown.1
        have hcv := conv_row (l := 45 :: ((nums a).take 3).flatMap two) (by simpa [nums, two_len] using hown)
        go_wp2
        go_ret2
        exact ⟨ret_off (by have hz := HZ.out; first | (rw [HO.out]; unfold body; first | (rw [if_pos (by omega)]; rfl) | (rw [if_neg (by omega), if_pos (by omega)]; rfl) | (rw [if_neg (by omega), if_neg (by omega)]; rfl))) HE.out, hbw⟩
  · have f1 : a % 60 = 0 := by have hz := HZ.out; have q : (z % 60 != 0) = false := (by assumption); simp at q; omega
    have f2 : a % 3600 ≠ 0 := by have hz := HZ.out; have q : (z % 3600 != 0) = true := (by assumption); simp at q; omega
    have hbk := Blk.new (w.alloc (.cells #[.int .u8 45] 5)) 113 #[.int .i64 (z / 3600), .int .i64 (z / 60 % 60), .int .i64 (z % 60)]
    have hown0 := (World.ownsRow_lit (base := w.heap.size) (e := 5) (size := 1) w #[.int .u8 45] 1 (Nat.le_refl _) (by unfold maxLen; omega) rfl).alloc (.cells #[.int .i64 (z / 3600), .int .i64 (z / 60 % 60), .int .i64 (z % 60)] 113)
    rw [World.size_alloc] at hbk
    go_loopw [4, 39] (fun v i w' => ∃ k : Nat, i = .int .i64 k ∧ k ≤ 2 ∧ w'.ownsRow w.heap.size 5 1 v (1 + 2 * k) (byteCells (45 :: ((nums a).take k).flatMap two)) ∧ Blk w' (w.heap.size + 1) 113 #[.int .i64 (z / 3600), .int .i64 (z / 60 % 60), .int .i64 (z % 60)] ∧ Below w.heap.size w w') (fun _ i _ => 2 - (intOf i).toNat)
    case atStart => exact ⟨0, rfl, Nat.zero_le _, hown0, hbk, ((Below.refl _ _).alloc (Nat.le_refl _) _).alloc (by simp) _⟩
    case round =>
      obtain ⟨k, rfl, hk, hown, hb, hbw⟩ := hrel
      have hsz := hbw.size
      by_cases hlt : k < 2
      · have hlt' : (k : Int) < 2 := by omega
        have hcell := num_at HZ.out hb k (by omega)
        have hT := Lib.hid (nums_take a k (by omega))
        have hz100 := nums_lt HA2.out k (by omega)
        generalize numk a k = y at *
        have v1 : 0 ≤ (y : Int) / 10 ∧ (y : Int) / 10 ≤ 9 := by omega
        have v2 : 0 ≤ (y : Int) % 10 ∧ (y : Int) % 10 ≤ 9 := by omega
        go_wp2_with (at_builtin; refine wpList_append_any _ rfl (.tmp 43) (.tmp 52) 112 rfl w.heap.size 5 i0 _ 1 1 Tryd.underlying112 hi0 hz0 hz1 hz2 rfl (by decide) _ (1 + 2 * k) _ rfl (hown.alloc _) _ _ 2 2 [.int .u8 _, .int .u8 _] rfl (reads_two _ _ _ _) (int_two _ _ _) (by unfold maxLen; omega) (by omega) (by simp; omega) ?_; intro v1 w1 hown1 hg1 _)
        have hb1 : Below w.heap.size w w1 := (hbw.alloc hbw.size _).grown hg1 (by simp; omega) (fun g hg => own_ge hown g hg)
        have hbb := (hb.alloc (.cells #[.int .u8 _, .int .u8 _] _)).grown hg1 (fun e => own_blk_ne hown hb (by decide) e.symm)
        rw [two_cells y (by omega), ← byteCells_app] at hown1
        clear hg1 hb
        go_roundw
        case rel => exact ⟨k + 1, by go_num, by omega, by rw [hT.out, List.flatMap_append]; simpa [Nat.mul_add, Nat.add_assoc, List.flatMap] using hown1, hbb, hb1⟩
        case measure => simp [intOf]; omega
      · obtain rfl : k = 2 := by omega
        have hlt' : ¬ ((2 : Nat) : Int) < 2 := by omega
        have hlen := Lib.hid hown.1
        have hcv := conv_row (l := 45 :: ((nums a).take 2).flatMap two) (by simpa [nums, two_len] using hown)
        go_wp2
        go_ret2
        exact ⟨ret_off (by have hz := HZ.out; first | (rw [HO.out]; unfold body; first | (rw [if_pos (by omega)]; rfl) | (rw [if_neg (by omega), if_pos (by omega)]; rfl) | (rw [if_neg (by omega), if_neg (by omega)]; rfl))) HE.out, hbw⟩
  · have f1 : a % 60 = 0 := by have hz := HZ.out; have q : (z % 60 != 0) = false := (by assumption); simp at q; omega
    have f2 : a % 3600 = 0 := by have hz := HZ.out; have q : (z % 3600 != 0) = false := (by assumption); simp at q; omega
    have hbk := Blk.new (w.alloc (.cells #[.int .u8 45] 5)) 113 #[.int .i64 (z / 3600), .int .i64 (z / 60 % 60), .int .i64 (z % 60)]
    have hown0 := (World.ownsRow_lit (base := w.heap.size) (e := 5) (size := 1) w #[.int .u8 45] 1 (Nat.le_refl _) (by unfold maxLen; omega) rfl).alloc (.cells #[.int .i64 (z / 3600), .int .i64 (z / 60 % 60), .int .i64 (z % 60)] 113)
    rw [World.size_alloc] at hbk
    go_loopw [4, 39] (fun v i w' => ∃ k : Nat, i = .int .i64 k ∧ k ≤ 1 ∧ w'.ownsRow w.heap.size 5 1 v (1 + 2 * k) (byteCells (45 :: ((nums a).take k).flatMap two)) ∧ Blk w' (w.heap.size + 1) 113 #[.int .i64 (z / 3600), .int .i64 (z / 60 % 60), .int .i64 (z % 60)] ∧ Below w.heap.size w w') (fun _ i _ => 1 - (intOf i).toNat)
    case atStart => exact ⟨0, rfl, Nat.zero_le _, hown0, hbk, ((Below.refl _ _).alloc (Nat.le_refl _) _).alloc (by simp) _⟩
    case round =>
      obtain ⟨k, rfl, hk, hown, hb, hbw⟩ := hrel
      have hsz := hbw.size
      by_cases hlt : k < 1
      · have hlt' : (k : Int) < 1 := by omega
        have hcell := num_at HZ.out hb k (by omega)
        have hT := Lib.hid (nums_take a k (by omega))
        have hz100 := nums_lt HA2.out k (by omega)
        generalize numk a k = y at *
        have v1 : 0 ≤ (y : Int) / 10 ∧ (y : Int) / 10 ≤ 9 := by omega
        have v2 : 0 ≤ (y : Int) % 10 ∧ (y : Int) % 10 ≤ 9 := by omega
        go_wp2_with (at_builtin; refine wpList_append_any _ rfl (.tmp 43) (.tmp 52) 112 rfl w.heap.size 5 i0 _ 1 1 Tryd.underlying112 hi0 hz0 hz1 hz2 rfl (by decide) _ (1 + 2 * k) _ rfl (hown.alloc _) _ _ 2 2 [.int .u8 _, .int .u8 _] rfl (reads_two _ _ _ _) (int_two _ _ _) (by unfold maxLen; omega) (by omega) (by simp; omega) ?_; intro v1 w1 hown1 hg1 _)
        have hb1 : Below w.heap.size w w1 := (hbw.alloc hbw.size _).grown hg1 (by simp; omega) (fun g hg => own_ge hown g hg)
        have hbb := (hb.alloc (.cells #[.int .u8 _, .int .u8 _] _)).grown hg1 (fun e => own_blk_ne hown hb (by decide) e.symm)
        rw [two_cells y (by omega), ← byteCells_app] at hown1
        clear hg1 hb
        go_roundw
        case rel => exact ⟨k + 1, by go_num, by omega, by rw [hT.out, List.flatMap_append]; simpa [Nat.mul_add, Nat.add_assoc, List.flatMap] using hown1, hbb, hb1⟩
        case measure => simp [intOf]; omega
      · obtain rfl : k = 1 := by omega
        have hlt' : ¬ ((1 : Nat) : Int) < 1 := by omega
        have hlen := Lib.hid hown.1
        have hcv := conv_row (l := 45 :: ((nums a).take 1).flatMap two) (by simpa [nums, two_len] using hown)
        go_wp2
        go_ret2
        exact ⟨ret_off (by have hz := HZ.out; first | (rw [HO.out]; unfold body; first | (rw [if_pos (by omega)]; rfl) | (rw [if_neg (by omega), if_pos (by omega)]; rfl) | (rw [if_neg (by omega), if_neg (by omega)]; rfl))) HE.out, hbw⟩
set_option maxRecDepth 20000 in
theorem offset_any (off : Int) (w : World) :
    Calls Tryd.prog 67 #[.int .i64 off] w fun e w' => e = .returned (.tuple #[.string (B (offT off)), .int .i64 (offE off)]) ∧ Below w.heap.size w w' := by
  by_cases h : -360000 < off ∧ off < 360000
  · by_cases h0 : off < 0
    · obtain ⟨a, rfl⟩ : ∃ a : Nat, off = -(a : Int) := ⟨off.natAbs, by omega⟩
      exact offset_neg a _ rfl w (by omega) (by omega) (by omega)
    · obtain ⟨a, rfl⟩ : ∃ a : Nat, off = (a : Int) := ⟨off.natAbs, by omega⟩
      exact offset_pos a _ rfl w (by omega) (by omega) (by omega)
  · have HN := Lib.hid (off_no (off := off) (by unfold offB; simp; omega))
    have h' : off ≤ -360000 ∨ (¬ off ≤ -360000 ∧ (360000 : Int) ≤ off) := by omega
    clear h
    rcases h' with h1 | ⟨h1, h2⟩
    all_goals
      go_enter Tryd.func67, Tryd.ntmps67
      go_wp2
      go_ret2
      exact ⟨HN.out, Below.refl _ _⟩
end Go.Proofs.YtginidedeefcdaaDoor.Ab
