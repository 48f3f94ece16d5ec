/-
  ABBR, WALKED: a short name.
-/
import Derived.Test.YtknnadihmodnfaaDoorAb4
namespace Go.Proofs.YtknnadihmodnfaaDoor.Ab
open Go.ChangeShapes Go.WideShapes Go.ChangeAt Go.RowKit
open Go.Proofs.YtknnadihmodnfaaDoor
open Go.Proofs.YtknnadihmodnfaaDoor.Wd
open Go.Lib (byteCells)
set_option linter.unusedVariables false
abbrev ofR (f l : List UInt8) (off : Int) (dst : Bool) : Value := .tuple #[.string (B (ofV f l off dst).1), .int .i64 (ofV f l off dst).2]
theorem of_no {f l : List UInt8} {off : Int} {dst : Bool} (h : ¬ (chkB f = true ∧ letB l = true)) : Ending.returned (.tuple #[.string ⟨#[]⟩, .int .i64 2]) = Ending.returned (ofR f l off dst) := by
  unfold ofR ofV; rw [if_neg h]
theorem of_is {f l : List UInt8} {off : Int} {dst : Bool} {x : ByteArray} {n : Int} (h : ofV f l off dst = (L x, n)) : Ending.returned (.tuple #[.string x, .int .i64 n]) = Ending.returned (ofR f l off dst) := by
  unfold ofR; rw [h]
theorem app3 (a x z : List UInt8) : L (B a ++ B x ++ B z) = a ++ x ++ z := by simp [L, B, ByteArray.data_append]
theorem app3s (a : List UInt8) (x : ByteArray) (z : List UInt8) : L (B a ++ x ++ B z) = a ++ L x ++ z := by simp [L, B, ByteArray.data_append]
theorem cutV_le (f : List UInt8) : (cutV f).1.length ≤ f.length ∧ (cutV f).2.2.1.length ≤ f.length := by
  have a := cut_sizes f [37, 115]; have b := cut_sizes f [37, 122]; have c := cut_sizes f [47]
  unfold cutV
  split
  · simp
  · unfold places
    split
    · exact a
    · split
      · exact b
      · split
        · exact c
        · simp
theorem place_4 (f : List UInt8) : (cutV f).2.1 = [37, 115] ∨ (cutV f).2.1 = [37, 122] ∨ (cutV f).2.1 = [47] ∨ (cutV f).2.1 = [] := by
  unfold cutV
  split
  · simp
  · unfold places
    split
    · simp
    · split
      · simp
      · split <;> simp
set_option maxRecDepth 20000 in
set_option maxHeartbeats 3200000 in
theorem of_any (f l : ByteArray) (off : Int) (dst : Bool) (w : World) (hT : Tb w) (hf : f.size ≤ 1000000) (hl : l.size ≤ 1000000) :
    Calls Tryd.prog 10 #[.string f, .string l, .int .i64 off, .bool dst] w fun e w' => e = .returned (ofR (L f) (L l) off dst) ∧ Below w.heap.size w w' := by
  have hc := cut_any f w hT hf
  rw [show (cutV (L f)).2.2.2 = chkB (L f) from rfl] at hc
  have hlt := fun w => letter_any l w hl
  have hle := cutV_le (L f)
  rw [L_len] at hle
  obtain ⟨le1, le2⟩ := hle
  by_cases h1 : chkB (L f) = true
  · rw [h1] at hc
    by_cases h2 : letB (L l) = true
    · rw [h2] at hlt
      have hlt : ∀ w, Calls Tryd.prog 9 #[.string l] w fun e w' => e = .returned (.int .i64 0) ∧ Below w.heap.size w w' := hlt
      have HV := Lib.hid (show ofV (L f) (L l) off dst = ofP (L f) (L l) off dst from ofV_ok off dst h1 h2)
      have hP := place_4 (L f)
      have hof := fun w => offset_any off w
      clear h1 h2
      unfold ofP at HV
      generalize (cutV (L f)).1 = A at *
      generalize (cutV (L f)).2.1 = P at *
      generalize (cutV (L f)).2.2.1 = Z at *
      have zA : (B A).size ≤ 1000000 := by show A.toArray.size ≤ _; simp; omega
      have zZ : (B Z).size ≤ 1000000 := by show Z.toArray.size ≤ _; simp; omega
      rcases hP with rfl | rfl | rfl | rfl
      · have hc : Calls Tryd.prog 12 #[.string f] w fun e w' => e = .returned (.tuple #[.string (B A), .string ⟨#[37, 115]⟩, .string (B Z), .bool true]) ∧ Below w.heap.size w w' := hc
        rw [if_pos rfl, ← app3s] at HV
        generalize B A = a at *
        generalize B Z = z at *
        clear le1 le2 hof
        go_enter Tryd.func10, Tryd.ntmps10
        go_wp2_with (first | (go_at_call 12; refine hc.mono ?_; rintro e w1 ⟨rfl, hb1⟩) | (go_at_call 9; refine (hlt _).mono ?_; rintro e w2 ⟨rfl, hb2⟩; have hbw := bcall hb1 hb2))
        go_ret2
        exact ⟨of_is HV.out, hbw⟩
      · have hc : Calls Tryd.prog 12 #[.string f] w fun e w' => e = .returned (.tuple #[.string (B A), .string ⟨#[37, 122]⟩, .string (B Z), .bool true]) ∧ Below w.heap.size w w' := hc
        rw [if_neg (by decide), if_pos rfl] at HV
        cases hb : offB off with
        | true =>
          rw [hb, if_pos rfl, show offE off = 0 by unfold offE; rw [if_pos hb], ← app3] at HV
          rw [show offE off = 0 by unfold offE; rw [if_pos hb]] at hof
          have zO : (B (offT off)).size ≤ 1000000 := by have := off_len hb; show (offT off).toArray.size ≤ _; simp; omega
          generalize B (offT off) = o at *
          generalize B A = a at *
          generalize B Z = z at *
          clear le1 le2 hb
          go_enter Tryd.func10, Tryd.ntmps10
          go_wp2_with (first | (go_at_call 12; refine hc.mono ?_; rintro e w1 ⟨rfl, hb1⟩) | (go_at_call 9; refine (hlt _).mono ?_; rintro e w2 ⟨rfl, hb2⟩; have hbw := bcall hb1 hb2) | (go_at_call 6; refine (hof _).mono ?_; rintro e w3 ⟨rfl, hb3⟩; have hbw := bcall hbw hb3))
          go_ret2
          exact ⟨of_is HV.out, hbw⟩
        | false =>
          rw [hb, if_neg (by decide), show offE off = 1 by unfold offE; rw [hb]; rfl] at HV
          rw [show offE off = 1 by unfold offE; rw [hb]; rfl] at hof
          have HV' := Lib.hid (show ofV (L f) (L l) off dst = (L ⟨#[]⟩, 1) from HV)
          generalize B (offT off) = o at *
          generalize B A = a at *
          generalize B Z = z at *
          clear le1 le2 hb HV
          go_enter Tryd.func10, Tryd.ntmps10
          go_wp2_with (first | (go_at_call 12; refine hc.mono ?_; rintro e w1 ⟨rfl, hb1⟩) | (go_at_call 9; refine (hlt _).mono ?_; rintro e w2 ⟨rfl, hb2⟩; have hbw := bcall hb1 hb2) | (go_at_call 6; refine (hof _).mono ?_; rintro e w3 ⟨rfl, hb3⟩; have hbw := bcall hbw hb3))
          go_ret2
          exact ⟨of_is HV'.out, hbw⟩
      · have hc : Calls Tryd.prog 12 #[.string f] w fun e w' => e = .returned (.tuple #[.string (B A), .string ⟨#[47]⟩, .string (B Z), .bool true]) ∧ Below w.heap.size w w' := hc
        rw [if_neg (by decide), if_neg (by decide), if_pos rfl] at HV
        clear le1 le2 hof
        cases dst with
        | true =>
          have HV' := Lib.hid (show ofV (L f) (L l) off true = (L (B Z), 0) from HV)
          generalize B A = a at *
          generalize B Z = z at *
          clear HV
          go_enter Tryd.func10, Tryd.ntmps10
          go_wp2_with (first | (go_at_call 12; refine hc.mono ?_; rintro e w1 ⟨rfl, hb1⟩) | (go_at_call 9; refine (hlt _).mono ?_; rintro e w2 ⟨rfl, hb2⟩; have hbw := bcall hb1 hb2))
          go_ret2
          exact ⟨of_is HV'.out, hbw⟩
        | false =>
          have HV' := Lib.hid (show ofV (L f) (L l) off false = (L (B A), 0) from HV)
          generalize B A = a at *
          generalize B Z = z at *
          clear HV
          go_enter Tryd.func10, Tryd.ntmps10
          go_wp2_with (first | (go_at_call 12; refine hc.mono ?_; rintro e w1 ⟨rfl, hb1⟩) | (go_at_call 9; refine (hlt _).mono ?_; rintro e w2 ⟨rfl, hb2⟩; have hbw := bcall hb1 hb2))
          go_ret2
          exact ⟨of_is HV'.out, hbw⟩
      · have hc : Calls Tryd.prog 12 #[.string f] w fun e w' => e = .returned (.tuple #[.string (B A), .string ⟨#[]⟩, .string (B Z), .bool true]) ∧ Below w.heap.size w w' := hc
        rw [if_neg (by decide), if_neg (by decide), if_neg (by decide)] at HV
        clear le1 le2 hof
        generalize B A = a at *
        generalize B Z = z at *
        go_enter Tryd.func10, Tryd.ntmps10
        go_wp2_with (first | (go_at_call 12; refine hc.mono ?_; rintro e w1 ⟨rfl, hb1⟩) | (go_at_call 9; refine (hlt _).mono ?_; rintro e w2 ⟨rfl, hb2⟩; have hbw := bcall hb1 hb2))
        go_ret2
        exact ⟨of_is HV.out, hbw⟩
    · have HN := Lib.hid (of_no (off := off) (dst := dst) (f := L f) (l := L l) (fun q => h2 q.2))
      have h2 : letB (L l) = false := by simpa using h2
      rw [h2] at hlt
      have hlt : ∀ w, Calls Tryd.prog 9 #[.string l] w fun e w' => e = .returned (.int .i64 2) ∧ Below w.heap.size w w' := hlt
      generalize B (cutV (L f)).1 = A at *
      generalize B (cutV (L f)).2.1 = P at *
      generalize B (cutV (L f)).2.2.1 = Z at *
      clear h1 h2 le1 le2
      go_enter Tryd.func10, Tryd.ntmps10
      go_wp2_with (first | (go_at_call 12; refine hc.mono ?_; rintro e w1 ⟨rfl, hb1⟩) | (go_at_call 9; refine (hlt _).mono ?_; rintro e w2 ⟨rfl, hb2⟩; have hbw := bcall hb1 hb2))
      go_ret2
      exact ⟨HN.out, hbw⟩
  · have HN := Lib.hid (of_no (off := off) (dst := dst) (f := L f) (l := L l) (fun q => h1 q.1))
    have h1 : chkB (L f) = false := by simpa using h1
    rw [h1] at hc
    generalize B (cutV (L f)).1 = A at *
    generalize B (cutV (L f)).2.1 = P at *
    generalize B (cutV (L f)).2.2.1 = Z at *
    clear h1 le1 le2 hlt
    go_enter Tryd.func10, Tryd.ntmps10
    go_wp2_with (go_at_call 12; refine hc.mono ?_; rintro e w1 ⟨rfl, hb1⟩)
    go_ret2
    exact ⟨HN.out, hb1⟩
end Go.Proofs.YtknnadihmodnfaaDoor.Ab
