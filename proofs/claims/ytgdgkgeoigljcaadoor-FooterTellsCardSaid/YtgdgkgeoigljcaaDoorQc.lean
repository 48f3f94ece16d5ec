/-
  RECORDS: record.Check, walked.
-/
import Derived.Test.YtgdgkgeoigljcaaDoorQa
namespace Go.Proofs.YtgdgkgeoigljcaaDoor.Rec
open Go.ChangeShapes Go.WideShapes Go.ChangeAt Go.RowKit
open Go.Proofs.YtgdgkgeoigljcaaDoor
open Go.Proofs.YtgdgkgeoigljcaaDoor.Wd
open Go.Proofs.YtgdgkgeoigljcaaDoor.Civ (Tab Inv)
open Go.Proofs.YtgdgkgeoigljcaaDoor.Stp (stV Bd chkS zeroS okS)
set_option linter.unusedVariables false
abbrev rcA (b c d : Int) (p q : St) : Array Value := #[.int .i32 b, .int .i32 c, .int .i32 d, .int .u16 p.y, .int .u16 p.m, .int .u16 p.v, .int .u16 p.d, .int .u16 p.h, .int .u16 p.i, .int .u16 p.s, .int .u16 p.u, .int .u16 q.y, .int .u16 q.m, .int .u16 q.v, .int .u16 q.d, .int .u16 q.h, .int .u16 q.i, .int .u16 q.s, .int .u16 q.u]
def rcOk (b c d : Int) (p q : St) : Bool := (p.zero == q.zero) && (p.chk == 0 && (q.chk == 0 && [offS b c, offS b d].all near))
def rcE (b c d : Int) (p q : St) : Int := if rcOk b c d p q = true then 0 else 2
theorem zero_eq (x : St) : (x.y == 0 && (x.m == 0 && (x.v == 0 && (x.d == 0 && (x.h == 0 && (x.i == 0 && (x.s == 0 && x.u == 0))))))) = x.zero := by
  rw [Bool.eq_iff_iff]
  simp only [Bool.and_eq_true, beq_iff_eq]
  exact Stp.zero_iff.symm
theorem eq_st (x : St) (w : World) : (binOp .eql 24 x.val (.agg #[.int .u16 0, .int .u16 0, .int .u16 0, .int .u16 0, .int .u16 0, .int .u16 0, .int .u16 0, .int .u16 0])).run Tryd.prog w = .ok (.bool x.zero) w := by
  rw [← zero_eq x]
  obtain ⟨y, m, v, d, h, i, s, u⟩ := x
  unfold St.val Stp.stV
  dsimp only
  rw [run_eql_struct]
  go_simp
  have hb : ∀ z : Int, (z == 0) = decide (z = 0) := fun z => by by_cases hz : z = 0 <;> simp [hz]
  simp only [hb]
  by_cases h1 : y = 0
  · by_cases h2 : m = 0
    · by_cases h3 : v = 0
      · by_cases h4 : d = 0
        · by_cases h5 : h = 0
          · by_cases h6 : i = 0
            · by_cases h7 : s = 0
              · by_cases h8 : u = 0 <;> simp [h1, h2, h3, h4, h5, h6, h7, h8]
              · simp [h1, h2, h3, h4, h5, h6, h7]
            · simp [h1, h2, h3, h4, h5, h6]
          · simp [h1, h2, h3, h4, h5]
        · simp [h1, h2, h3, h4]
      · simp [h1, h2, h3]
    · simp [h1, h2]
  · simp [h1]
theorem rc_bad {b c d : Int} {p q : St} (h : rcOk b c d p q = false) : Ending.returned (.int .i64 2) = Ending.returned (.int .i64 (rcE b c d p q)) := by unfold rcE; rw [h]; rfl
theorem rc_good {b c d : Int} {p q : St} (h : rcOk b c d p q = true) : Ending.returned (.int .i64 0) = Ending.returned (.int .i64 (rcE b c d p q)) := by unfold rcE; rw [h]; rfl
theorem reads_two (w : World) (t : TypeId) (a b : Int) : Reads (w.alloc (.cells #[.int .i64 a, .int .i64 b] t)) (w.heap.size + 1) 1 (some ⟨w.heap.size, 0, none⟩) 2 ([a, b].map (Value.int .i64)) :=
  ⟨rfl, fun _ => ⟨_, rfl, Nat.lt_succ_self _, fun j x hx => by
    match j, hx with
    | 0, hx => simp at hx; subst hx; simp [Addr.add]
    | 1, hx => simp at hx; subst hx; simp [Addr.add]⟩⟩
theorem _root_.Go.Proofs.YtgdgkgeoigljcaaDoor.Civ.Inv.drewN {w0 w : World} (h : Civ.Inv w0 w) (n : Nat) : Civ.Inv w0 (w.drewN n) := ⟨h.1, bdrewN h.2 n⟩
set_option maxRecDepth 100000 in
set_option maxHeartbeats 8000000 in
theorem chk_any (b c d : Int) (p q : St) (w : World) (hT : Tab w) (B : RBd b c d p q) :
    Calls Tryd.prog 12 #[rcV b c d p q] w fun e w' => e = .returned (.int .i64 (rcE b c d p q)) ∧ Below w.heap.size w w' := by
  have i0 := Civ.Inv.start hT
  have zp := eq_st p
  have zq := eq_st q
  by_cases h1 : p.zero = q.zero
  · have hz : (p.zero == q.zero) = true := by rw [h1]; simp
    have H1 := Lib.hid h1; clear h1
    go_enter Tryd.func12, Tryd.ntmps12
    go_wp2
    go_quiet (fail)
    go_wp2_with fail
    have iW := (((i0.alloc (.cells (rcA b c d p q) 26)).alloc (.cells #[.int .u16 0, .int .u16 0, .int .u16 0, .int .u16 0, .int .u16 0, .int .u16 0, .int .u16 0, .int .u16 0] 24)).drewN nq)
    have x0 := (((Blk.new w 26 (rcA b c d p q)).alloc (.cells #[.int .u16 0, .int .u16 0, .int .u16 0, .int .u16 0, .int .u16 0, .int .u16 0, .int .u16 0, .int .u16 0] 24)).drewN nq)
    unfold rcA at iW x0
    refine (Stp.chk_any _ _ _ _ _ _ _ _ _ iW.1 B.p).mono ?_; rintro e w1 ⟨rfl, hb1⟩
    have i1 := iW.call hb1
    have x1 := x0.below hb1 x0.lt
    clear iW x0 hb1 zp zq
    have c0 := x1.cell 0
    have c1 := x1.cell 1
    have c2 := x1.cell 2
    have c3 := x1.cell 3
    have c4 := x1.cell 4
    have c5 := x1.cell 5
    have c6 := x1.cell 6
    have c7 := x1.cell 7
    have c8 := x1.cell 8
    have c9 := x1.cell 9
    have c10 := x1.cell 10
    have c11 := x1.cell 11
    have c12 := x1.cell 12
    have c13 := x1.cell 13
    have c14 := x1.cell 14
    have c15 := x1.cell 15
    have c16 := x1.cell 16
    have c17 := x1.cell 17
    have c18 := x1.cell 18
    simp at c0 c1 c2 c3 c4 c5 c6 c7 c8 c9 c10 c11 c12 c13 c14 c15 c16 c17 c18
    by_cases h2 : p.chk = 0
    · have h2b : (p.chk != 0) = false := by simp [h2]
      have H2 := Lib.hid h2; clear h2
      go_wp2_with fail
      refine (Stp.chk_any _ _ _ _ _ _ _ _ _ i1.1 B.q).mono ?_; rintro e w2 ⟨rfl, hb2⟩
      have i2 := i1.call hb2
      have x2 := x1.below hb2 x1.lt
      clear i1 x1 hb2 c0 c1 c2 c3 c4 c5 c6 c7 c8 c9 c10 c11 c12 c13 c14 c15 c16 c17 c18
      by_cases h3 : q.chk = 0
      · have h3b : (q.chk != 0) = false := by simp [h3]
        have H3 := Lib.hid h3; clear h3
        go_wp2_with (refine wpList_load_row rfl 26 _ rfl _ rfl _ _ _ _ x2 Tryd.underlying26 rfl (by kernel_rfl) ?_)
        refine (offs_any b c d p q _ B).mono ?_; rintro e w3 ⟨rfl, hb3⟩
        have i3 := i2.call hb3
        clear i2 x2 hb3
        go_wp2_with fail
        refine (inside_any _ 2 2 (w3.heap.size + 1) [offS b c, offS b d] _ (reads_two _ _ _ _) (by decide)).mono ?_; rintro e w4 ⟨rfl, rfl⟩
        cases h4 : [offS b c, offS b d].all near
        · have HR := Lib.hid (show rcOk b c d p q = false by unfold rcOk; simp only [h4, Bool.and_false])
          clear h4
          go_wp2_with fail
          go_ret
          exact ⟨rc_bad HR.out, (i3.alloc _).2⟩
        · have HR := Lib.hid (show rcOk b c d p q = true by unfold rcOk; rw [H1.out, H2.out, H3.out, h4]; simp)
          clear h4
          go_wp2_with fail
          go_ret
          exact ⟨rc_good HR.out, (i3.alloc _).2⟩
      · have HR := Lib.hid (show rcOk b c d p q = false by unfold rcOk; simp [h3])
        have h3b : (q.chk != 0) = true := by simp [h3]
        clear h3
        go_wp2_with fail
        go_ret
        exact ⟨rc_bad HR.out, i2.2⟩
    · have HR := Lib.hid (show rcOk b c d p q = false by unfold rcOk; simp [h2])
      have h2b : (p.chk != 0) = true := by simp [h2]
      clear h2
      go_wp2_with fail
      go_ret
      exact ⟨rc_bad HR.out, i1.2⟩
  · have HR := Lib.hid (show rcOk b c d p q = false by unfold rcOk; simp [h1])
    have hz : (p.zero == q.zero) = false := by simp [h1]
    clear h1
    go_enter Tryd.func12, Tryd.ntmps12
    go_wp2
    go_quiet (fail)
    go_wp2
    go_ret
    exact ⟨rc_bad HR.out, bdrewN ((i0.alloc _).alloc _).2 _⟩
end Go.Proofs.YtgdgkgeoigljcaaDoor.Rec
