/-
  ABBR, WALKED: what the statements of layer 8 ask first.
-/
import Derived.Test.YtknnadihmodnfaaDoorAb5
namespace Go.Proofs.YtknnadihmodnfaaDoor.Ab
open Go.ChangeShapes Go.WideShapes Go.ChangeAt Go.RowKit
open Go.Proofs.YtknnadihmodnfaaDoor
open Go.Proofs.YtknnadihmodnfaaDoor.Wd
open Go.Lib (byteCells)
set_option linter.unusedVariables false
/-- the table stands, and all that there was -/
def TI (w0 w : World) : Prop := Tb w ∧ Below w0.heap.size w0 w
theorem TI.start {w : World} (h : Tb w) : TI w w := ⟨h, Below.refl _ _⟩
theorem TI.call {w0 w w1 : World} (h : TI w0 w) (hb : Below w.heap.size w w1) : TI w0 w1 := ⟨h.1.bel hb, bcall h.2 hb⟩
theorem TI.alloc {w0 w : World} (h : TI w0 w) (o : Obj) : TI w0 (w.alloc o) := h.call ((Below.refl _ _).alloc (Nat.le_refl _) _)
theorem of_at {f l : ByteArray} {off : Int} {dst : Bool} {w : World} (hT : Tb w) (hf : f.size ≤ 1000000) (hl : l.size ≤ 1000000) {x : ByteArray} {n : Int} (h : ofV (L f) (L l) off dst = (L x, n)) :
    Calls Tryd.prog 10 #[.string f, .string l, .int .i64 off, .bool dst] w fun e w' => e = .returned (.tuple #[.string x, .int .i64 n]) ∧ Below w.heap.size w w' := by
  refine (of_any f l off dst w hT hf hl).mono fun e w' q => ⟨?_, q.2⟩
  rw [q.1]; exact (of_is h).symm
theorem check_at {s : ByteArray} {w : World} (hT : Tb w) (hs : s.size ≤ 1000000) {b : Bool} (h : chkB (L s) = b) :
    Calls Tryd.prog 8 #[.string s] w fun e w' => e = .returned (.int .i64 (okE b)) ∧ Below w.heap.size w w' := by
  subst h; exact check_any s w hT hs
theorem letter_at {s : ByteArray} {w : World} (hs : s.size ≤ 1000000) {b : Bool} (h : letB (L s) = b) :
    Calls Tryd.prog 9 #[.string s] w fun e w' => e = .returned (.int .i64 (okE b)) ∧ Below w.heap.size w w' := by
  subst h; exact letter_any s w hs
theorem offset_at {o : Int} {w : World} {x : ByteArray} {n : Int} (h : offT o = L x) (h2 : offE o = n) :
    Calls Tryd.prog 6 #[.int .i64 o] w fun e w' => e = .returned (.tuple #[.string x, .int .i64 n]) ∧ Below w.heap.size w w' := by
  refine (offset_any o w).mono fun e w' q => ⟨?_, q.2⟩
  rw [q.1, h, h2]
theorem parse_at {s : ByteArray} {w : World} (hs : s.size ≤ 1000000) {v n : Int} (h : parN (L s) = v) (h2 : parE (L s) = n) :
    Calls Tryd.prog 7 #[.string s] w fun e w' => e = .returned (.tuple #[.int .i64 v, .int .i64 n]) ∧ Below w.heap.size w w' := by
  subst h h2; exact parse_any s w hs
set_option maxRecDepth 20000 in
set_option maxHeartbeats 3200000 in
theorem lives_any (w : World) (hT : Tb w) :
    Calls Tryd.prog 5 #[] w fun e w' => e = .returned (.bool true) ∧ Below w.heap.size w w' := by
  have h0 := TI.start hT
  have c1 := fun w hT => of_at (w := w) (f := ⟨#[69, 37, 115, 84]⟩) (l := ⟨#[68]⟩) (off := 0) (dst := true) (x := ⟨#[69, 68, 84]⟩) (n := 0) hT (by decide) (by decide) (by decide +kernel)
  have c2 := fun w hT => of_at (w := w) (f := ⟨#[71, 77, 84, 47, 66, 83, 84]⟩) (l := ⟨#[]⟩) (off := 3600) (dst := true) (x := ⟨#[66, 83, 84]⟩) (n := 0) hT (by decide) (by decide) (by decide +kernel)
  have c3 := fun w hT => of_at (w := w) (f := ⟨#[37, 122]⟩) (l := ⟨#[]⟩) (off := -12600) (dst := false) (x := ⟨#[45, 48, 51, 51, 48]⟩) (n := 0) hT (by decide) (by decide) (by decide +kernel)
  have c4 := fun w hT => of_at (w := w) (f := ⟨#[97, 47]⟩) (l := ⟨#[]⟩) (off := 0) (dst := false) (x := ⟨#[]⟩) (n := 2) hT (by decide) (by decide) (by decide +kernel)
  have c5 := fun w hT => of_at (w := w) (f := ⟨#[37, 122]⟩) (l := ⟨#[]⟩) (off := 360000) (dst := false) (x := ⟨#[]⟩) (n := 1) hT (by decide) (by decide) (by decide +kernel)
  have c6 := fun w => offset_at (w := w) (o := 3605) (x := ⟨#[43, 48, 49, 48, 48, 48, 53]⟩) (n := 0) (by decide +kernel) (by decide +kernel)
  have c7 := fun w => parse_at (w := w) (s := ⟨#[45, 48, 51, 51, 48]⟩) (v := -12600) (n := 0) (by decide) (by decide +kernel) (by decide +kernel)
  have c8 := fun w => parse_at (w := w) (s := ⟨#[43, 48, 48, 48, 48]⟩) (v := 0) (n := 4) (by decide) (by decide +kernel) (by decide +kernel)
  have d1 := fun w hT => check_at (w := w) (s := ⟨#[37, 115, 37, 115]⟩) (b := false) hT (by decide) (by decide +kernel)
  have d2 := fun w hT => check_at (w := w) (s := ⟨#[97, 37]⟩) (b := false) hT (by decide) (by decide +kernel)
  have d3 := fun w hT => check_at (w := w) (s := ⟨#[45, 48, 51]⟩) (b := true) hT (by decide) (by decide +kernel)
  have d4 := fun w => letter_at (w := w) (s := ⟨#[45]⟩) (b := false) (by decide) (by decide +kernel)
  have d5 := fun w => letter_at (w := w) (s := ⟨#[]⟩) (b := true) (by decide) (by decide +kernel)
  simp only [show okE false = 2 from rfl, show okE true = 0 from rfl] at d1 d2 d3 d4 d5
  go_enter Tryd.func5, Tryd.ntmps5
  go_wp2_with fail
  refine (c1 _ h0.1).mono ?_; rintro e w1 ⟨rfl, hb1⟩; have h1 := h0.call hb1; clear hb1 h0 c1
  go_wp2_with fail
  refine (c2 _ h1.1).mono ?_; rintro e w2 ⟨rfl, hb2⟩; have h2 := h1.call hb2; clear hb2 h1 c2
  go_wp2_with fail
  refine (c3 _ h2.1).mono ?_; rintro e w3 ⟨rfl, hb3⟩; have h3 := h2.call hb3; clear hb3 h2 c3
  go_wp2_with fail
  refine (c4 _ h3.1).mono ?_; rintro e w4 ⟨rfl, hb4⟩; have h4 := h3.call hb4; clear hb4 h3 c4
  go_wp2_with fail
  refine (c5 _ h4.1).mono ?_; rintro e w5 ⟨rfl, hb5⟩; have h5 := h4.call hb5; clear hb5 h4 c5
  go_wp2_with fail
  refine (c6 _).mono ?_; rintro e w6 ⟨rfl, hb6⟩; have h6 := h5.call hb6; clear hb6 h5 c6
  go_wp2_with fail
  refine (c7 _).mono ?_; rintro e w7 ⟨rfl, hb7⟩; have h7 := h6.call hb7; clear hb7 h6 c7
  go_wp2_with fail
  refine (c8 _).mono ?_; rintro e w8 ⟨rfl, hb8⟩; have h8 := h7.call hb8; clear hb8 h7 c8
  go_wp2_with fail
  refine (d1 _ h8.1).mono ?_; rintro e w9 ⟨rfl, hb9⟩; have h9 := h8.call hb9; clear hb9 h8 d1
  go_wp2_with fail
  refine (d2 _ h9.1).mono ?_; rintro e w10 ⟨rfl, hb10⟩; have h10 := h9.call hb10; clear hb10 h9 d2
  go_wp2_with fail
  refine (d3 _ h10.1).mono ?_; rintro e w11 ⟨rfl, hb11⟩; have h11 := h10.call hb11; clear hb11 h10 d3
  go_wp2_with fail
  refine (d4 _).mono ?_; rintro e w12 ⟨rfl, hb12⟩; have h12 := h11.call hb12; clear hb12 h11 d4
  go_wp2_with fail
  refine (d5 _).mono ?_; rintro e w13 ⟨rfl, hb13⟩; have h13 := h12.call hb13; clear hb13 h12 d5
  go_wp2_with fail
  go_ret
  exact ⟨rfl, h13.2⟩
end Go.Proofs.YtknnadihmodnfaaDoor.Ab
