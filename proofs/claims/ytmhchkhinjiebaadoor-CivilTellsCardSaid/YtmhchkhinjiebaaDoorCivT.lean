/-
  THE CALENDAR's STATEMENTS: CivilTells, walked.
-/
import Derived.Test.YtmhchkhinjiebaaDoorCivD
import Derived.Deep.RegionHeld3
import Derived.Deep.DrawnRows
namespace Go.Proofs.YtmhchkhinjiebaaDoor.Civ
open Go.ChangeShapes Go.WideShapes Go.ChangeAt Go.RowKit
set_option linter.unusedVariables false
attribute [local go_sem ↓] Go.wp_at_zero Go.wp_at_succ
theorem cell_keep {w w' : World} {p : Addr} {v : Value} (h : w.cell? p = some v) (hb : Below w.heap.size w w') : w'.cell? p = some v := by
  rw [hb.cell (World.block_lt_of_cell? w _ h)]; exact h
theorem Inv.of {w0 w : World} {R : Prop} (h : Inv w0 w ∧ R) : Tab w := h.1.1
theorem Inv.ofB {w0 w : World} {R : Prop} (h : Inv w0 w ∧ R) : Below w0.heap.size w0 w := h.1.2
/-- block g holds just the cells of a date -/
def DateAt (w : World) (g : Nat) (y m d : Int) : Prop := w.cell? ⟨g, 0, none⟩ = some (.int .i64 y) ∧ w.cell? ⟨g, 1, none⟩ = some (.int .i64 m) ∧ w.cell? ⟨g, 2, none⟩ = some (.int .i64 d)
theorem DateAt.new (w : World) (y m d : Int) (t : TypeId) : DateAt (w.alloc (.cells #[.int .i64 y, .int .i64 m, .int .i64 d] t)) w.heap.size y m d := by
  unfold DateAt; simp
theorem DateAt.below {w w' : World} {g : Nat} {y m d : Int} (h : DateAt w g y m d) (hb : Below w.heap.size w w') : DateAt w' g y m d :=
  ⟨cell_keep h.1 hb, cell_keep h.2.1 hb, cell_keep h.2.2 hb⟩
theorem DateAt.alloc {w : World} {g : Nat} {y m d : Int} (h : DateAt w g y m d) (o : Obj) : DateAt (w.alloc o) g y m d := h.below ((Below.refl _ _).alloc (Nat.le_refl _) _)
theorem DateAt.drew {w : World} {g : Nat} {y m d : Int} (h : DateAt w g y m d) : DateAt w.drew g y m d := h
set_option maxHeartbeats 4000000 in
theorem tells_any (y m d n a b : Int) (w : World) (hT : Tab w) :
    Calls Tryd.prog 3 #[dateV y m d, .int .i64 n, .int .i64 a, .int .i64 b] w fun e w' => e = .returned (.bool true) ∧ Below w.heap.size w w' := by
  have i0 := Inv.start hT
  go_enter Tryd.func3, Tryd.ntmps3
  go_wp2_with fail
  refine (days_any _ _ _ _ (i0.alloc _).1).mono ?_; rintro e w1 ⟨rfl, hb1⟩
  obtain ⟨hc1, hf1⟩ := bcell hb1
  have i1 := (i0.alloc _).call hb1
  have hz1 : w.heap.size < w1.heap.size := by have := hb1.size; simp at this; omega
  go_wp2_with fail
  refine (rdays_any _ _ _ _).mono ?_; rintro e w2 ⟨rfl, hb2⟩
  obtain ⟨hc2, hf2⟩ := bcell hb2
  have i2 := i1.call hb2
  have hz2 : w.heap.size < w2.heap.size := by have := hb2.size; omega
  go_wp2_with fail
  refine (of_any _ _).mono ?_; rintro e w3 ⟨rfl, hb3⟩
  obtain ⟨hc3, hf3⟩ := bcell hb3
  have i3 := i2.call hb3
  have hz3 : w.heap.size < w3.heap.size := by have := hb3.size; omega
  go_wp2_with fail
  refine (rof_any _ _).mono ?_; rintro e w4 ⟨rfl, hb4⟩
  obtain ⟨hc4, hf4⟩ := bcell hb4
  have i4 := (i3.alloc _).call hb4
  have hz4 : w3.heap.size < w4.heap.size := by have := hb4.size; simp at this; omega
  go_wp2_with fail
  refine (len_any _ _ _ (i4.alloc _).1).mono ?_; rintro e w5 ⟨rfl, rfl⟩
  go_wp2_with fail
  refine (rlen_any _ _ _).mono ?_; rintro e w5 ⟨rfl, rfl⟩
  go_wp2_with fail
  refine (fir_any _ _).mono ?_; rintro e w5 ⟨rfl, rfl⟩
  go_wp2_with fail
  refine (rfir_any _ _).mono ?_; rintro e w5 ⟨rfl, rfl⟩
  have i5 := (i4.alloc (.cells #[.int .i64 (Cal.ofYV n), .int .i64 (Cal.ofMV n), .int .i64 (Cal.ofDV n)] 23))
  go_wp2_with fail
  have d1 := ((((((DateAt.new w y m d 23).below hb1).below hb2).below hb3).alloc (.cells #[.int .i64 (Cal.ofYV n), .int .i64 (Cal.ofMV n), .int .i64 (Cal.ofDV n)] 23)).below hb4).alloc (.cells #[.int .i64 (Cal.ofYV n), .int .i64 (Cal.ofMV n), .int .i64 (Cal.ofDV n)] 23)
  have d2 := ((DateAt.new w3 (Cal.ofYV n) (Cal.ofMV n) (Cal.ofDV n) 23).below hb4).alloc (.cells #[.int .i64 (Cal.ofYV n), .int .i64 (Cal.ofMV n), .int .i64 (Cal.ofDV n)] 23)
  have d3 := DateAt.new w4 (Cal.ofYV n) (Cal.ofMV n) (Cal.ofDV n) 23
  clear hb1 hb2 hb3 hb4 hc1 hc2 hc3 hc4 hf1 hf2 hf3 hf4 i1 i2 i3 i4 hz1 hz2 hz3 hz4
  generalize w4.alloc (.cells #[.int .i64 (Cal.ofYV n), .int .i64 (Cal.ofMV n), .int .i64 (Cal.ofDV n)] 23) = W at *
  obtain ⟨a1, a2, a3⟩ := d1
  obtain ⟨b1, b2, b3⟩ := d2
  obtain ⟨c1, c2, c3⟩ := d3
  generalize w3.heap.size = g3 at *
  generalize w4.heap.size = g4 at *
  clear i0
  go_region_held3 (fun w' => Inv w w' ∧ w'.cell? ⟨w.heap.size, 0, none⟩ = some (.int .i64 y) ∧ w'.cell? ⟨w.heap.size, 1, none⟩ = some (.int .i64 m) ∧ w'.cell? ⟨w.heap.size, 2, none⟩ = some (.int .i64 d) ∧
      w'.cell? ⟨g3, 0, none⟩ = some (.int .i64 (Cal.ofYV n)) ∧ w'.cell? ⟨g3, 1, none⟩ = some (.int .i64 (Cal.ofMV n)) ∧ w'.cell? ⟨g3, 2, none⟩ = some (.int .i64 (Cal.ofDV n)) ∧
      w'.cell? ⟨g4, 0, none⟩ = some (.int .i64 (Cal.ofYV n)) ∧ w'.cell? ⟨g4, 1, none⟩ = some (.int .i64 (Cal.ofMV n)) ∧ w'.cell? ⟨g4, 2, none⟩ = some (.int .i64 (Cal.ofDV n)))
    (first | assumption | ((go_split_ands; (refine ⟨?_, ?_, ?_, ?_, ?_, ?_, ?_, ?_, ?_, ?_⟩ <;> first | assumption | exact cell_keep (by assumption) hbl | exact Inv.call (by assumption) hbl | exact i5.drew))))
    (first
      | (go_at_call 14; refine (lives_any _ (Inv.of (by assumption))).mono ?_; rintro e w' ⟨rfl, hbl⟩)
      | (go_at_call 15; refine (leap_any _ _).mono ?_; rintro e w' ⟨rfl, rfl⟩)
      | (go_at_call 16; refine (rleap_any _ _).mono ?_; rintro e w' ⟨rfl, rfl⟩)
      | (go_at_call 17; refine (chk_any _ _ _ _ (Inv.of (by assumption))).mono ?_; rintro e w' ⟨rfl, hbl⟩)
      | (go_at_call 18; refine (rchk_any _ _ _ _).mono ?_; rintro e w' ⟨rfl, hbl⟩)
      | (go_at_call 19; refine (wd_any _ _).mono ?_; rintro e w' ⟨rfl, rfl⟩)
      | (go_at_call 20; refine (rwd_any _ _).mono ?_; rintro e w' ⟨rfl, rfl⟩))
  go_wp2
  go_ret
  exact ⟨rfl, Inv.ofB (by assumption)⟩
end Go.Proofs.YtmhchkhinjiebaaDoor.Civ
