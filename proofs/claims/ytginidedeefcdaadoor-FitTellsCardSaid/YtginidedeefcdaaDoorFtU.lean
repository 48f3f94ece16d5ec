/-
  FIT: what fit.Year answers at known lists.
-/
import Derived.Test.YtginidedeefcdaaDoorFtY
namespace Go.Proofs.YtginidedeefcdaaDoor.Ft
open Go.ChangeShapes Go.WideShapes Go.ChangeAt Go.RowKit
open Go.Proofs.YtginidedeefcdaaDoor
open Go.Proofs.YtginidedeefcdaaDoor.Wd
open Go.Proofs.YtginidedeefcdaaDoor.Rec
open Go.Proofs.YtginidedeefcdaaDoor.Yr
open Go.Proofs.YtginidedeefcdaaDoor.Tb
open Go.Proofs.YtginidedeefcdaaDoor.Civ (Tab Inv)
set_option linter.unusedVariables false
set_option linter.unusedSimpArgs false
theorem flatS_take (l : List Sp) (n : Nat) : ∀ j, j < 3 * n → (flatS (l.take n))[j]? = (flatS l)[j]? := by
  induction l generalizing n with
  | nil => intro j _; simp
  | cons s r ih =>
    intro j hj
    cases n with
    | zero => omega
    | succ n =>
      show (s.A.toList ++ flatS (r.take n))[j]? = (s.A.toList ++ flatS r)[j]?
      have hl : s.A.toList.length = 3 := rfl
      by_cases h : j < 3
      · rw [List.getElem?_append_left (by omega), List.getElem?_append_left (by omega)]
      · rw [List.getElem?_append_right (by omega), List.getElem?_append_right (by omega), hl]
        exact ih n _ (by omega)
theorem spans_blk {W : World} {g : Nat} {t : TypeId} {l : List Sp} {n : Nat} (x : Blk W g t (flatS l).toArray) (hn : n ≤ l.length) : Spans W W.heap.size (some ⟨g, 0, none⟩) n (l.take n) := by
  have hl : (l.take n).length = n := by rw [List.length_take]; omega
  refine ⟨hl, by rw [flatS_len, hl], fun _ => ⟨_, rfl, x.lt, fun j u hu => ?_⟩⟩
  have hj : j < 3 * n := by
    have := (List.getElem?_eq_some_iff.1 hu).1
    rw [flatS_len, hl] at this; omega
  rw [flatS_take l n j hj] at hu
  have e : (⟨g, 0, none⟩ : Addr).add j = ⟨g, j, none⟩ := by unfold Addr.add; split <;> simp_all
  rw [e, x.cell j]; simpa using hu
theorem year_at {g n c : Nat} {t : TypeId} {L : List Sp} {Y : Int} {r : Rc} {a b : Int} {W : World} (hT : Tab W) (x : Blk W g t (flatS L).toArray) (hn : n ≤ L.length ∧ n ≤ 100) (hc : n ≤ c)
    (h1 : fyR (L.take n) Y = r) (h2 : fyW (L.take n) Y = a) (h3 : fyE (L.take n) Y = b) :
    Calls Tryd.prog 13 #[.slice (some ⟨g, 0, none⟩) n c, .int .i64 Y] W fun e w' => e = .returned (.tuple #[r.V, .int .u8 a, .int .i64 b]) ∧ Below W.heap.size W w' := by
  have := year_any (some ⟨g, 0, none⟩) n c (L.take n) Y W hT (spans_blk x hn.1) (by unfold maxLen; omega) hc
  rwa [h1, h2, h3] at this
theorem ends_1999 {w : World} (hT : Tab w) :
    Calls Tryd.prog 17 #[.int .i64 1999] w fun e w' => e = .returned (.tuple #[.agg #[.int .u16 0, .int .u16 1, .int .u16 5, .int .u16 1, .int .u16 0, .int .u16 0, .int .u16 0, .int .u16 0], .agg #[.int .u16 0, .int .u16 12, .int .u16 5, .int .u16 5, .int .u16 23, .int .u16 59, .int .u16 59, .int .u16 999], .int .i64 0]) ∧ Below w.heap.size w w' := by
  have := ends_yes 1999 w hT (by decide) (by decide)
  rwa [show sA (enA 1999) = #[.int .u16 0, .int .u16 1, .int .u16 5, .int .u16 1, .int .u16 0, .int .u16 0, .int .u16 0, .int .u16 0] by kernel_rfl, show sA (enB 1999) = #[.int .u16 0, .int .u16 12, .int .u16 5, .int .u16 5, .int .u16 23, .int .u16 59, .int .u16 59, .int .u16 999] by kernel_rfl] at this
theorem stamp_0 {w : World} (hT : Tab w) :
    Calls Tryd.prog 15 #[.int .i64 0] w fun e w' => e = .returned (.tuple #[.agg #[.int .u16 0, .int .u16 1, .int .u16 4, .int .u16 1, .int .u16 0, .int .u16 0, .int .u16 0, .int .u16 0], .int .i64 0]) ∧ Below w.heap.size w w' := by
  have := stamp_any 0 w hT (by decide) (by decide)
  rwa [show sA (fsV 0) = #[.int .u16 0, .int .u16 1, .int .u16 4, .int .u16 1, .int .u16 0, .int .u16 0, .int .u16 0, .int .u16 0] by kernel_rfl, show fsE 0 = 0 by kernel_rfl] at this
theorem fv_1 : fyR (List.take 3 [⟨915148800, 3600, false⟩, ⟨922582800, 7200, true⟩, ⟨941331600, 3600, false⟩]) 1999 = ⟨-60, 0, -60, ⟨0, 10, 0, 5, 3, 0, 0, 0⟩, ⟨0, 3, 0, 5, 2, 0, 0, 0⟩⟩ ∧ fyW (List.take 3 [⟨915148800, 3600, false⟩, ⟨922582800, 7200, true⟩, ⟨941331600, 3600, false⟩]) 1999 = 0 ∧ fyE (List.take 3 [⟨915148800, 3600, false⟩, ⟨922582800, 7200, true⟩, ⟨941331600, 3600, false⟩]) 1999 = 0 := ⟨by kernel_rfl, by kernel_rfl, by kernel_rfl⟩
theorem yv_1 {g : Nat} {t : TypeId} {W : World} (hT : Tab W) (x : Blk W g t #[.int .i64 (915148800), .int .i64 (3600), .bool false, .int .i64 (922582800), .int .i64 (7200), .bool true, .int .i64 (941331600), .int .i64 (3600), .bool false]) :
    Calls Tryd.prog 13 #[.slice (some ⟨g, 0, none⟩) 3 3, .int .i64 1999] W fun e w' => e = .returned (.tuple #[Rc.V ⟨-60, 0, -60, ⟨0, 10, 0, 5, 3, 0, 0, 0⟩, ⟨0, 3, 0, 5, 2, 0, 0, 0⟩⟩, .int .u8 0, .int .i64 0]) ∧ Below W.heap.size W w' :=
  year_at (L := [⟨915148800, 3600, false⟩, ⟨922582800, 7200, true⟩, ⟨941331600, 3600, false⟩]) hT x (by decide) (by decide) fv_1.1 fv_1.2.1 fv_1.2.2
theorem fv_2 : fyR (List.take 1 [⟨915148800, 20, false⟩]) 1999 = Rc.nil ∧ fyW (List.take 1 [⟨915148800, 20, false⟩]) 1999 = 1 ∧ fyE (List.take 1 [⟨915148800, 20, false⟩]) 1999 = 0 := ⟨by kernel_rfl, by kernel_rfl, by kernel_rfl⟩
theorem yv_2 {g : Nat} {t : TypeId} {W : World} (hT : Tab W) (x : Blk W g t #[.int .i64 (915148800), .int .i64 (20), .bool false]) :
    Calls Tryd.prog 13 #[.slice (some ⟨g, 0, none⟩) 1 1, .int .i64 1999] W fun e w' => e = .returned (.tuple #[Rc.V Rc.nil, .int .u8 1, .int .i64 0]) ∧ Below W.heap.size W w' :=
  year_at (L := [⟨915148800, 20, false⟩]) hT x (by decide) (by decide) fv_2.1 fv_2.2.1 fv_2.2.2
theorem fv_3 : fyR (List.take 1 [⟨915148800, 3600, false⟩, ⟨922582800, 7200, true⟩, ⟨941331600, 3600, false⟩]) 1999 = ⟨-60, 0, 0, St.nil, St.nil⟩ ∧ fyW (List.take 1 [⟨915148800, 3600, false⟩, ⟨922582800, 7200, true⟩, ⟨941331600, 3600, false⟩]) 1999 = 0 ∧ fyE (List.take 1 [⟨915148800, 3600, false⟩, ⟨922582800, 7200, true⟩, ⟨941331600, 3600, false⟩]) 1999 = 0 := ⟨by kernel_rfl, by kernel_rfl, by kernel_rfl⟩
theorem yv_3 {g : Nat} {t : TypeId} {W : World} (hT : Tab W) (x : Blk W g t #[.int .i64 (915148800), .int .i64 (3600), .bool false, .int .i64 (922582800), .int .i64 (7200), .bool true, .int .i64 (941331600), .int .i64 (3600), .bool false]) :
    Calls Tryd.prog 13 #[.slice (some ⟨g, 0, none⟩) 1 3, .int .i64 1999] W fun e w' => e = .returned (.tuple #[Rc.V ⟨-60, 0, 0, St.nil, St.nil⟩, .int .u8 0, .int .i64 0]) ∧ Below W.heap.size W w' :=
  year_at (L := [⟨915148800, 3600, false⟩, ⟨922582800, 7200, true⟩, ⟨941331600, 3600, false⟩]) hT x (by decide) (by decide) fv_3.1 fv_3.2.1 fv_3.2.2
theorem fv_4 : fyR (List.take 3 [⟨915148800, 3600, false⟩, ⟨922582800, 7200, true⟩, ⟨941331600, 3600, false⟩]) 2000 = Rc.nil ∧ fyW (List.take 3 [⟨915148800, 3600, false⟩, ⟨922582800, 7200, true⟩, ⟨941331600, 3600, false⟩]) 2000 = 0 ∧ fyE (List.take 3 [⟨915148800, 3600, false⟩, ⟨922582800, 7200, true⟩, ⟨941331600, 3600, false⟩]) 2000 = 2 := ⟨by kernel_rfl, by kernel_rfl, by kernel_rfl⟩
theorem yv_4 {g : Nat} {t : TypeId} {W : World} (hT : Tab W) (x : Blk W g t #[.int .i64 (915148800), .int .i64 (3600), .bool false, .int .i64 (922582800), .int .i64 (7200), .bool true, .int .i64 (941331600), .int .i64 (3600), .bool false]) :
    Calls Tryd.prog 13 #[.slice (some ⟨g, 0, none⟩) 3 3, .int .i64 2000] W fun e w' => e = .returned (.tuple #[Rc.V Rc.nil, .int .u8 0, .int .i64 2]) ∧ Below W.heap.size W w' :=
  year_at (L := [⟨915148800, 3600, false⟩, ⟨922582800, 7200, true⟩, ⟨941331600, 3600, false⟩]) hT x (by decide) (by decide) fv_4.1 fv_4.2.1 fv_4.2.2
theorem fv_5 : fyR (List.take 2 [⟨915148800, 0, false⟩, ⟨915148900, 60, false⟩]) 1999 = Rc.nil ∧ fyW (List.take 2 [⟨915148800, 0, false⟩, ⟨915148900, 60, false⟩]) 1999 = 4 ∧ fyE (List.take 2 [⟨915148800, 0, false⟩, ⟨915148900, 60, false⟩]) 1999 = 0 := ⟨by kernel_rfl, by kernel_rfl, by kernel_rfl⟩
theorem yv_5 {g : Nat} {t : TypeId} {W : World} (hT : Tab W) (x : Blk W g t #[.int .i64 (915148800), .int .i64 (0), .bool false, .int .i64 (915148900), .int .i64 (60), .bool false]) :
    Calls Tryd.prog 13 #[.slice (some ⟨g, 0, none⟩) 2 2, .int .i64 1999] W fun e w' => e = .returned (.tuple #[Rc.V Rc.nil, .int .u8 4, .int .i64 0]) ∧ Below W.heap.size W w' :=
  year_at (L := [⟨915148800, 0, false⟩, ⟨915148900, 60, false⟩]) hT x (by decide) (by decide) fv_5.1 fv_5.2.1 fv_5.2.2
theorem fv_6 : fyR (List.take 2 [⟨915148800, -3600, false⟩, ⟨915148900, 60, true⟩]) 1999 = Rc.nil ∧ fyW (List.take 2 [⟨915148800, -3600, false⟩, ⟨915148900, 60, true⟩]) 1999 = 5 ∧ fyE (List.take 2 [⟨915148800, -3600, false⟩, ⟨915148900, 60, true⟩]) 1999 = 0 := ⟨by kernel_rfl, by kernel_rfl, by kernel_rfl⟩
theorem yv_6 {g : Nat} {t : TypeId} {W : World} (hT : Tab W) (x : Blk W g t #[.int .i64 (915148800), .int .i64 (-3600), .bool false, .int .i64 (915148900), .int .i64 (60), .bool true]) :
    Calls Tryd.prog 13 #[.slice (some ⟨g, 0, none⟩) 2 2, .int .i64 1999] W fun e w' => e = .returned (.tuple #[Rc.V Rc.nil, .int .u8 5, .int .i64 0]) ∧ Below W.heap.size W w' :=
  year_at (L := [⟨915148800, -3600, false⟩, ⟨915148900, 60, true⟩]) hT x (by decide) (by decide) fv_6.1 fv_6.2.1 fv_6.2.2

theorem two_rows (w : World) (t : TypeId) (a b z : Array Value) (h : a.size = z.size) (h2 : b.size = z.size) : ((((w.alloc (.cells z t)).alloc (.cells z t)).setRow w.heap.size a).setRow (w.heap.size + 1) b) = (w.alloc (.cells a t)).alloc (.cells b t) := by
  have e1 : ((w.alloc (.cells z t)).alloc (.cells z t)).setRow w.heap.size a = (w.alloc (.cells a t)).alloc (.cells z t) := by
    simp only [World.setRow, World.alloc]
    congr 1
    apply Array.ext
    · simp
    · intro i h1 h2
      simp only [Array.getElem_modify, Array.getElem_push, Array.size_push]
      split <;> split <;> simp_all <;> (rw [dif_pos (by omega), dif_pos (by omega)])
  rw [e1]
  have hs : w.heap.size + 1 = (w.alloc (.cells a t)).heap.size := (sz1 w _ rfl).symm
  rw [hs, row_new]
end Go.Proofs.YtginidedeefcdaaDoor.Ft
