/-
  little's STATEMENTS: 'lives', walked.
-/
import Derived.Test.YtknnadihmodnfaaLitU
import Derived.Test.YtknnadihmodnfaaLitR
namespace Go.Proofs.Ytknnadihmodnfaa.Lit
open Go.ChangeShapes Go.WideShapes Go.ChangeAt Go.RowKit
open Go.Proofs.Ytknnadihmodnfaa
open Go.Proofs.Ytknnadihmodnfaa.Wd
open Go.Lib (byteCells strCells)
set_option linter.unusedVariables false
set_option maxRecDepth 20000 in
set_option maxHeartbeats 1600000 in
theorem left_any (g : Nat) (s : ByteArray) (b : Bool) (w : World) (h : Rd w g s b) :
    Calls Try.prog 19 #[.pointer (some ⟨g, 0, none⟩)] w fun e w' => e = .returned (.int .i64 (if b = true then 0 else (s.size : Int))) ∧ w' = w := by
  have c0 := h.cell 0
  have c1 := h.cell 1
  have hgl := h.lt
  simp at c0 c1
  cases b
  all_goals
    go_enter Try.func19, Try.ntmps19
    go_wp2
    go_ret
    exact ⟨rfl, rfl⟩
set_option maxRecDepth 20000 in
set_option maxHeartbeats 1600000 in
theorem bad_any (g : Nat) (s : ByteArray) (b : Bool) (w : World) (h : Rd w g s b) :
    Calls Try.prog 21 #[.pointer (some ⟨g, 0, none⟩)] w fun e w' => e = .returned (.bool b) ∧ w' = w := by
  have c0 := h.cell 0
  have c1 := h.cell 1
  have hgl := h.lt
  simp at c0 c1
  go_enter Try.func21, Try.ntmps21
  go_wp2
  go_ret
  exact ⟨rfl, rfl⟩
/-! ### The contracts, at numbers that are known -/
theorem put_at {g : Nat} {bs : List UInt8} {N : Int} {n : Nat} {w : World} (h : Wr w g bs) (hn : n < 18446744073709551616) (hl : bs.length ≤ 1000000) {cs : List UInt8} (hc : bs ++ putL N n = cs) :
    Calls Try.prog 10 #[.pointer (some ⟨g, 0, none⟩), .int .i64 N, .int .u64 n] w fun e w' => e = .returned (.tuple #[]) ∧ Below g w w' ∧ Wr w' g cs := hc ▸ put_any g bs N n w h hn hl
theorem raw_at {g : Nat} {bs : List UInt8} {s : ByteArray} {w : World} (h : Wr w g bs) (hl : bs.length + s.size ≤ 10000000) {cs : List UInt8} (hc : bs ++ s.data.toList = cs) :
    Calls Try.prog 12 #[.pointer (some ⟨g, 0, none⟩), .string s] w fun e w' => e = .returned (.tuple #[]) ∧ Below g w w' ∧ Wr w' g cs := hc ▸ raw_any g bs s w h hl
theorem get_at {g : Nat} {s : ByteArray} {b : Bool} {n : Int} {w : World} (h : Rd w g s b) (hs : s.size ≤ 9223372036854775807) {v : Nat} {s' : ByteArray} {b' : Bool} (h1 : getV s b n = v) (h2 : tkS s b (getW n) = s') (h3 : (!tkO s b (getW n)) = b') :
    Calls Try.prog 25 #[.pointer (some ⟨g, 0, none⟩), .int .i64 n] w fun e w' => e = .returned (.int .u64 v) ∧ Rd w' g s' b' ∧ w.grownBy w' (some g) := by
  have := get_any g s b n w h hs
  rwa [h1, h2, h3] at this
theorem signed_at {g : Nat} {s : ByteArray} {b : Bool} {n : Int} {w : World} (h : Rd w g s b) (hs : s.size ≤ 9223372036854775807) {v : Int} {s' : ByteArray} {b' : Bool} (h1 : sgnV s b n = v) (h2 : tkS s b (getW n) = s') (h3 : (!tkO s b (getW n)) = b') :
    Calls Try.prog 20 #[.pointer (some ⟨g, 0, none⟩), .int .i64 n] w fun e w' => e = .returned (.int .i64 v) ∧ Rd w' g s' b' ∧ w.grownBy w' (some g) := by
  have := signed_any g s b n w h hs
  rwa [h1, h2, h3] at this
theorem rraw_at {g : Nat} {s : ByteArray} {b : Bool} {n : Int} {w : World} (h : Rd w g s b) (hs : s.size ≤ 9223372036854775807) {v : ByteArray} {s' : ByteArray} {b' : Bool} (h1 : tkR s b n = v) (h2 : tkS s b n = s') (h3 : (!tkO s b n) = b') :
    Calls Try.prog 38 #[.pointer (some ⟨g, 0, none⟩), .int .i64 n] w fun e w' => e = .returned (.string v) ∧ Rd w' g s' b' ∧ w.grownBy w' (some g) := by
  have := rraw_any g s b n w h hs
  rwa [h1, h2, h3] at this
theorem unhex_at {s : ByteArray} {w : World} (hs : s.size ≤ 4000000) {v : List UInt8} {e0 : Int} (h1 : unV (L s) = v) (h2 : unE (L s) = e0) :
    Calls Try.prog 13 #[.string s] w fun e w' => e = .returned (.tuple #[.string ⟨v.toArray⟩, .int .i64 e0]) ∧ Below w.heap.size w w' := by
  have := unhex_any s w hs
  rwa [h1, h2] at this
theorem hex_at {s : ByteArray} {w : World} (hs : s.size ≤ 1000000) {v : List UInt8} (h1 : hexL (L s) = v) :
    Calls Try.prog 16 #[.string s] w fun e w' => e = .returned (.string ⟨v.toArray⟩) ∧ Below w.heap.size w w' := by
  have := hex_any s w hs
  rwa [h1] at this
/-- a reader's step changes nothing that was there -/
theorem rd_step {w0 w w' : World} {g : Nat} (h : Below w0.heap.size w0 w) (hg : w.grownBy w' (some g)) (hl : w0.heap.size ≤ g) : Below w0.heap.size w0 w' := h.grown hg h.size (fun k hk => by injection hk with hk; omega)
set_option maxRecDepth 40000 in
set_option maxHeartbeats 3200000 in
theorem lives_any (w : World) :
    Calls Try.prog 9 #[] w fun e w' => e = .returned (.bool true) ∧ Below w.heap.size w w' := by
  go_enter Try.func9, Try.ntmps9
  go_wp2_with fail
  refine (put_at (Wr.new w) (by decide) (by decide) (cs := [3, 2]) (by decide +kernel)).mono ?_; rintro e w1 ⟨rfl, hb1, hw1⟩
  go_wp2_with fail
  refine (put_at hw1 (by decide) (by decide) (cs := [3, 2, 251, 255, 255, 255]) (by decide +kernel)).mono ?_; rintro e w2 ⟨rfl, hb2, hw2⟩
  go_wp2_with fail
  refine (put_at hw2 (by decide) (by decide) (cs := [3, 2, 251, 255, 255, 255]) (by decide +kernel)).mono ?_; rintro e w3 ⟨rfl, hb3, hw3⟩
  go_wp2_with fail
  refine (raw_at hw3 (by decide) (cs := [3, 2, 251, 255, 255, 255, 97, 98]) (by decide +kernel)).mono ?_; rintro e w4 ⟨rfl, hb4, hw4⟩
  have B4 : Below w.heap.size w w4 := ((((Below.refl _ _).alloc (Nat.le_refl _) _).trans hb1).trans hb2 |>.trans hb3).trans hb4
  clear hb1 hb2 hb3 hb4 hw1 hw2 hw3
  have hz4 := B4.size
  go_wp2_with fail
  refine (out_any _ _ _ hw4).mono ?_; rintro e w5 ⟨rfl, rfl⟩
  go_wp2_with fail
  refine (open_any _ _).mono ?_; rintro e w5 ⟨rfl, rfl⟩
  have hr5 : Rd (w4.alloc (.cells #[.string ⟨#[3, 2, 251, 255, 255, 255, 97, 98]⟩, .bool false] 85)) w4.heap.size ⟨#[3, 2, 251, 255, 255, 255, 97, 98]⟩ false := Blk.new _ _ _
  have B5 := B4.alloc hz4 (.cells #[.string ⟨#[3, 2, 251, 255, 255, 255, 97, 98]⟩, .bool false] 85)
  go_wp2_with fail
  refine (get_at hr5 (by decide) (v := 515) (s' := ⟨#[251, 255, 255, 255, 97, 98]⟩) (b' := false) (by decide +kernel) (by decide +kernel) (by decide +kernel)).mono ?_; rintro e w6 ⟨rfl, hr6, hg6⟩
  have B6 := rd_step B5 hg6 hz4
  go_wp2_with fail
  refine (signed_at hr6 (by decide) (v := -5) (s' := ⟨#[97, 98]⟩) (b' := false) (by decide +kernel) (by decide +kernel) (by decide +kernel)).mono ?_; rintro e w7 ⟨rfl, hr7, hg7⟩
  have B7 := rd_step B6 hg7 hz4
  go_wp2_with fail
  refine (rraw_at hr7 (by decide) (v := ⟨#[97]⟩) (s' := ⟨#[98]⟩) (b' := false) (by decide +kernel) (by decide +kernel) (by decide +kernel)).mono ?_; rintro e w8 ⟨rfl, hr8, hg8⟩
  have B8 := rd_step B7 hg8 hz4
  go_wp2_with fail
  refine (left_any _ _ _ _ hr8).mono ?_; rintro e w9 ⟨rfl, rfl⟩
  go_wp2_with fail
  refine (get_at hr8 (by decide) (v := 0) (s' := ⟨#[]⟩) (b' := true) (by decide +kernel) (by decide +kernel) (by decide +kernel)).mono ?_; rintro e w9 ⟨rfl, hr9, hg9⟩
  have B9 := rd_step B8 hg9 hz4
  clear hg6 hg7 hg8 hg9 hr5 hr6 hr7 hr8 B4 B5 B6 B7 B8
  go_wp2_with fail
  refine (unhex_at (by decide) (v := [10, 255]) (e0 := 0) (by decide +kernel) (by decide +kernel)).mono ?_; rintro e w10 ⟨rfl, hb10⟩
  have hr10 := hr9.below hb10 hr9.lt
  have B10 := B9.trans (hb10.mono B9.size)
  go_wp2_with fail
  refine (unhex_at (by decide) (v := []) (e0 := 4) (by decide +kernel) (by decide +kernel)).mono ?_; rintro e w11 ⟨rfl, hb11⟩
  have hr11 := hr10.below hb11 hr10.lt
  have B11 := B10.trans (hb11.mono B10.size)
  clear hr9 hr10 hb10 hb11 B9 B10
  go_wp2_with fail
  refine (bad_any _ _ _ _ hr11).mono ?_; rintro e w12 ⟨rfl, rfl⟩
  go_wp2_with fail
  refine (left_any _ _ _ _ hr11).mono ?_; rintro e w12 ⟨rfl, rfl⟩
  go_wp2_with fail
  refine (hex_at (by decide) (v := [48, 97, 44, 102, 102]) (by decide +kernel)).mono ?_; rintro e w12 ⟨rfl, hb12⟩
  have B12 := B11.trans (hb12.mono B11.size)
  go_wp2_with fail
  refine (hex_at (by decide) (v := []) (by decide +kernel)).mono ?_; rintro e w13 ⟨rfl, hb13⟩
  have B13 := B12.trans (hb13.mono B12.size)
  go_wp2_with fail
  go_ret
  exact ⟨rfl, B13⟩
end Go.Proofs.Ytknnadihmodnfaa.Lit
