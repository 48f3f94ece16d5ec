/-
  LittleWrites, WALKED: whatever is written, a writer has the bytes that the reference says.
-/
import Derived.Test.YtknnadihmodnfaaLitL
import Derived.Test.YtknnadihmodnfaaLitV
namespace Go.Proofs.Ytknnadihmodnfaa.Lit
open Go.ChangeShapes Go.WideShapes Go.ChangeAt Go.RowKit
open Go.Proofs.Ytknnadihmodnfaa
open Go.Proofs.Ytknnadihmodnfaa.Wd
open Go.Lib (byteCells strCells)
set_option linter.unusedVariables false
structure ActD where
  k : Int
  w : Int
  n : Nat
  t : ByteArray
def ActD.cells (a : ActD) : List Value := [.int .i64 a.k, .int .i64 a.w, .int .u64 a.n, .string a.t]
def actsV (l : List ActD) : List Value := l.flatMap ActD.cells
theorem actsV_len (l : List ActD) : (actsV l).length = 4 * l.length := by
  induction l with
  | nil => rfl
  | cons a t ih =>
    have e : actsV (a :: t) = a.cells ++ actsV t := rfl
    have hc : a.cells.length = 4 := rfl
    rw [e, List.length_append, ih, hc, List.length_cons]; omega
theorem actsV_at {l : List ActD} {k : Nat} (h : k < l.length) (j : Nat) (hj : j < 4) : (actsV l)[k * 4 + j]? = (l[k]).cells[j]? := by
  induction l generalizing k with
  | nil => simp at h
  | cons a t ih =>
    have e : actsV (a :: t) = a.cells ++ actsV t := rfl
    have hc : a.cells.length = 4 := rfl
    rw [e]
    cases k with
    | zero => rw [List.getElem?_append_left (by omega)]; simp
    | succ k =>
      rw [List.getElem?_append_right (by omega), hc, show (k + 1) * 4 + j - 4 = k * 4 + j by omega, ih (by simpa using h)]
      simp
theorem add_pos (a : Addr) (j : Nat) (h : 0 < j) : a.add j = ⟨a.block, a.off + j, none⟩ := by unfold Addr.add; rw [if_neg (by omega)]
theorem box_keep {w w2 : World} {g : Nat} {v : Value} {t : TypeId} {cs : Array Value} (hb : Blk (w.alloc (.cells cs t)) w.heap.size t cs) (hk : Keep (w.alloc (.cells cs t)) w2 g v) (hg : g < w.heap.size) (hv : ∀ q, v.ownBlock = some q → q < w.heap.size) : Blk w2 w.heap.size t cs :=
  (hk w.heap.size (by simp) (by omega) (fun e => by have := hv _ e; omega)).trans hb
set_option maxRecDepth 20000 in
set_option maxHeartbeats 6400000 in
theorem writes_any (A : Option Addr) (n c : Nat) (s : ByteArray) (l : List ActD) (w : World) (hr : Reads w w.heap.size 4 A n (actsV l)) (hN : ∀ a ∈ l, a.n < 18446744073709551616) (hn : n ≤ 9223372036854775807) (hs : s.size ≤ 9223372036854775807) :
    Calls Try.prog 3 #[.slice A n c, .string s] w fun e w' => e = .returned (.bool true) ∧ Below w.heap.size w w' := by
  by_cases h1 : 100 < n
  · have h1' : (100 : Int) < (n : Int) := by omega
    go_enter Try.func3, Try.ntmps3
    go_wp2_with (go_at_call 9; refine (lives_any _).mono ?_; rintro e w1 ⟨rfl, hb1⟩)
    go_ret
    exact ⟨rfl, hb1⟩
  · have h1' : ¬ (100 : Int) < (n : Int) := by omega
    by_cases h2 : 3000 < s.size
    · have h2' : (3000 : Int) < (s.size : Int) := by omega
      go_enter Try.func3, Try.ntmps3
      go_wp2_with (go_at_call 9; refine (lives_any _).mono ?_; rintro e w1 ⟨rfl, hb1⟩)
      go_ret
      exact ⟨rfl, hb1⟩
    · have h2' : ¬ (3000 : Int) < (s.size : Int) := by omega
      have hll : l.length = n := by have := hr.1; rw [actsV_len] at this; omega
      go_enter Try.func3, Try.ntmps3
      go_wp2_with (go_at_call 9; refine (lives_any _).mono ?_; rintro e w1 ⟨rfl, hb1⟩)
      have hsz1 := hb1.size
      have hw1 := Wr.new w1
      have hb2 := hb1.alloc hsz1 (.cells #[.pointer none, .slice none 0 0] 27)
      go_loopw [6, 8, 25] (fun v _ i w' => ∃ (k : Nat) (x : ByteArray), i = .int .i64 k ∧ k ≤ n ∧ v = .string x ∧ Wr w' w1.heap.size (L x) ∧ x.size ≤ 1000 * k ∧ Below w.heap.size w w') (fun _ _ i _ => n - (intOf i).toNat)
      case atStart => exact ⟨0, ⟨#[]⟩, rfl, Nat.zero_le _, rfl, hw1, Nat.le_refl _, hb2⟩
      case round =>
        obtain ⟨k, x, rfl, hk, rfl, hw, hxs, hbw⟩ := hrel
        by_cases hlt : k < n
        · have hlt' : (k : Int) < (n : Int) := by omega
          obtain ⟨ad, rfl, had, hcell⟩ := (hr.below hbw).2 (by omega)
          have hkl : k < l.length := by omega
          have c0 := hcell (k * 4 + 0) _ (actsV_at hkl 0 (by omega))
          have c1 := hcell (k * 4 + 1) _ (actsV_at hkl 1 (by omega))
          have c2 := hcell (k * 4 + 2) _ (actsV_at hkl 2 (by omega))
          have c3 := hcell (k * 4 + 3) _ (actsV_at hkl 3 (by omega))
          rw [← add_of_add, add_pos _ _ (by omega)] at c1 c2 c3
          rw [Nat.add_zero] at c0
          clear hcell
          have hNk := hN _ (List.getElem_mem hkl)
          generalize l[k] = a at *
          obtain ⟨v0, hv⟩ := hw.row
          have hgl := hw.lt
          have hvl := hv.row_lt
          have HGL := Lib.hid hvl
          have hgw : w.heap.size ≤ w1.heap.size := hsz1
          have hsw := hbw.size
          have hbx0 := fun a : ActD => Blk.new wr 30 #[.int .i64 a.k, .int .i64 a.w, .int .u64 a.n, .string a.t]
          have hbx : Below wr.heap.size wr (wr.alloc (.cells #[.int .i64 a.k, .int .i64 a.w, .int .u64 a.n, .string a.t] 30)) := (Below.refl _ _).alloc (Nat.le_refl _) _
          by_cases ht : 1000 < a.t.size
          · have ht' : (1000 : Int) < (a.t.size : Int) := by omega
            go_wp2_with fail
            go_ret
            exact ⟨rfl, hbw.trans (hbx.mono hbw.size)⟩
          · have ht' : ¬ (1000 : Int) < (a.t.size : Int) := by omega
            by_cases q0 : a.k = 0
            · have q0' : (a.k == 0) = true := by simp [q0]
              clear q0
              go_wp2_with (first
                | (go_at_call 10; refine (put_fr w1.heap.size v0 (L x) _ _ _ (hv.bel hbx) hNk (by rw [L_len]; omega)).mono ?_; rintro e w2 ⟨rfl, hb2, hw2, hk2⟩; have hbx2 := box_keep (hbx0 a) hk2 hgl hvl; have d1 := hbx2.cell 1; have d2 := hbx2.cell 2; have hbl := hbx2.lt; simp at d1 d2)
                | (go_at_call 11; refine (rput_any _ _ _ hNk).mono ?_; rintro e w3 ⟨rfl, hb3⟩; have hp8 := putL_len a.w a.n; have hp8' : ByteArray.size ⟨(putL a.w a.n).toArray⟩ ≤ 8 := by rw [← L_len]; exact hp8))
              go_roundw
              case rel => exact ⟨k + 1, _, by go_num, by omega, rfl, by rw [L_app]; exact hw2.bel hb3, by rw [ByteArray.size_append]; omega, ((hbw.trans (hbx.mono hbw.size)).trans (hb2.mono hgw)).trans (hb3.mono (by have := hb2.size; simp at this; omega))⟩
              case measure => simp [intOf]; omega
            · have q0' : (a.k == 0) = false := by simp [q0]
              by_cases q1 : a.k = 1
              · have q1' : (a.k == 1) = true := by simp [q1]
                clear q0 q1
                go_wp2_with (first
                  | (go_at_call 10; refine (put_fr w1.heap.size v0 (L x) _ _ _ (hv.bel hbx) hNk (by rw [L_len]; omega)).mono ?_; rintro e w2 ⟨rfl, hb2, hw2, hk2⟩; have hbx2 := box_keep (hbx0 a) hk2 hgl hvl; have d1 := hbx2.cell 1; have d2 := hbx2.cell 2; have hbl := hbx2.lt; simp at d1 d2)
                  | (go_at_call 11; refine (rput_any _ _ _ hNk).mono ?_; rintro e w3 ⟨rfl, hb3⟩; have hp8 := putL_len a.w a.n; have hp8' : ByteArray.size ⟨(putL a.w a.n).toArray⟩ ≤ 8 := by rw [← L_len]; exact hp8))
                go_roundw
                case rel => exact ⟨k + 1, _, by go_num, by omega, rfl, by rw [L_app]; exact hw2.bel hb3, by rw [ByteArray.size_append]; omega, ((hbw.trans (hbx.mono hbw.size)).trans (hb2.mono hgw)).trans (hb3.mono (by have := hb2.size; simp at this; omega))⟩
                case measure => simp [intOf]; omega
              · have q1' : (a.k == 1) = false := by simp [q1]
                by_cases q2 : a.k = 2
                · have q2' : (a.k == 2) = true := by simp [q2]
                  clear q0 q1 q2
                  go_wp2_with (go_at_call 12; refine (raw_fr w1.heap.size v0 (L x) _ _ (hv.bel hbx) (by rw [L_len]; omega)).mono ?_; rintro e w2 ⟨rfl, hb2, hw2, hk2⟩; have hbx2 := box_keep (hbx0 a) hk2 hgl hvl; have d1 := hbx2.cell 3; have hbl := hbx2.lt; simp at d1)
                  go_roundw
                  case rel => exact ⟨k + 1, _, by go_num, by omega, rfl, by rw [L_app]; exact hw2, by rw [ByteArray.size_append]; omega, (hbw.trans (hbx.mono hbw.size)).trans (hb2.mono hgw)⟩
                  case measure => simp [intOf]; omega
                · have q2' : (a.k == 2) = false := by simp [q2]
                  clear q0 q1 q2
                  go_wp2_with fail
                  go_roundw
                  case rel => exact ⟨k + 1, _, by go_num, by omega, rfl, hw.bel hbx, by omega, hbw.trans (hbx.mono hbw.size)⟩
                  case measure => simp [intOf]; omega
        · obtain rfl : k = n := by omega
          have hlt' : ¬ (k : Int) < (k : Int) := by omega
          have hs4 : s.size ≤ 4000000 := by omega
          have hs1 : s.size ≤ 1000000 := by omega
          have hsw := hbw.size
          have hxe := bytes_eta x
          go_wp2_with (first
            | (go_at_call 13; refine (unhex_any s _ hs4).mono ?_; rintro e w2 ⟨rfl, hb2⟩)
            | (go_at_call 14; refine (runhex_any s _ hs4).mono ?_; rintro e w3 ⟨rfl, hb3⟩)
            | (go_at_call 15; refine (out_any _ _ _ ((hw.bel hb2).bel hb3)).mono ?_; rintro e w4 ⟨rfl, rfl⟩)
            | (go_at_call 16; refine (hex_any s _ hs1).mono ?_; rintro e w5 ⟨rfl, hb5⟩)
            | (go_at_call 17; refine (rhex_any s _ hs4).mono ?_; rintro e w6 ⟨rfl, hb6⟩))
          go_ret
          exact ⟨rfl, (((hbw.trans (hb2.mono hsw)).trans (hb3.mono (by have := hb2.size; omega))).trans (hb5.mono (by have := hb2.size; have := hb3.size; omega))).trans (hb6.mono (by have := hb2.size; have := hb3.size; have := hb5.size; omega))⟩
end Go.Proofs.Ytknnadihmodnfaa.Lit
