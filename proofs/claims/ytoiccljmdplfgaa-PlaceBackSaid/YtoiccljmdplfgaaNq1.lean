/-
  near.Within; solsticelaw42.Small: walked.
-/
import Derived.Test.YtoiccljmdplfgaaNr3
import Derived.Laws.AppendOwn
namespace Go.Proofs.Ytoiccljmdplfgaa.Nr
open Go.ChangeShapes Go.WideShapes Go.ChangeAt Go.RowKit Go.Shelf
open Go.Proofs.Ytoiccljmdplfgaa
open Go.Proofs.Ytoiccljmdplfgaa.Wd
open Go.Proofs.Ytoiccljmdplfgaa.Pl
open Go.Proofs.Ytoiccljmdplfgaa.Nv
open Go.Proofs.Ytoiccljmdplfgaa.Ar
set_option linter.unusedVariables false
set_option linter.unusedSimpArgs false
abbrev inV (l : List Nat) : List Value := l.map fun x : Nat => .int .i64 (x : Int)
theorem inV_len (l : List Nat) : (inV l).length = l.length := List.length_map ..
/-- the places among the first k that are no further than d -/
def wiL (L : List Pc) (p : P2) (d : Int) : Nat → List Nat
  | 0 => []
  | k + 1 => if far_ L p k ≤ d then wiL L p d k ++ [k] else wiL L p d k
theorem wiL_len (L : List Pc) (p : P2) (d : Int) : ∀ k, (wiL L p d k).length ≤ k
  | 0 => Nat.le_refl _
  | k + 1 => by
    have := wiL_len L p d k
    unfold wiL; split
    · rw [List.length_append, List.length_singleton]; omega
    · omega
theorem own_below {w w' : World} {base size n : Nat} {e : TypeId} {v : Value} {xs : List Value} (h : w.ownsRow base e size v n xs) (hb : Below w.heap.size w w') : w'.ownsRow base e size v n xs := by
  refine ⟨h.1, ?_⟩
  rcases h.2 with h' | ⟨b, cap, cur, h1, h2, h3, h4⟩
  · exact .inl h'
  · exact .inr ⟨b, cap, cur, h1, h2, (hb.block b (Array.getElem?_eq_some_iff.1 h3).1).trans h3, h4⟩
theorem own_shape {w : World} {base size n : Nat} {e : TypeId} {v : Value} {xs : List Value} (h : w.ownsRow base e size v n xs) : ∃ A c, v = .slice A n c := by
  rcases h.2 with ⟨rfl, rfl⟩ | ⟨g', cap, cur, rfl, _⟩
  · exact ⟨_, _, rfl⟩
  · exact ⟨_, _, rfl⟩
def WiP (L : List Pc) (p : P2) (d : Int) (n : Nat) (w : World) (e : Ending) (w' : World) : Prop :=
  ∃ v, e = .returned (.tuple #[v, .int .i64 0]) ∧ Below w.heap.size w w' ∧ w'.ownsRow w.heap.size 3 1 v (wiL L p d n).length (inV (wiL L p d n))
set_option maxRecDepth 100000 in
set_option maxHeartbeats 6400000 in
theorem within_no (A : Option Addr) (n c : Nat) (L : List Pc) (p : P2) (d : Int) (w : World) (hR : Pcs w w.heap.size A n L) (hm : n ≤ maxLen) (hn : ncE L p ≠ 0) :
    Calls Try.prog 44 #[.slice A n c, p.V, .int .i64 d] w fun e w' => e = .returned (.tuple #[.slice none 0 0, .int .i64 (ncE L p)]) ∧ Below w.heap.size w w' := by
  have i1 := (BI.start w).alloc (.cells p.A 23)
  have y1 := Blk.new w 23 p.A
  have hck := ncheck_any A n c L p _ ((hR.below i1.b).more i1.b.size) hm
  generalize ncE L p = E at *
  have hv : (E != 0) = true := by simp [hn]
  clear hn
  go_enter Try.func44, Try.ntmps44
  go_wp2_with (first | refine wpList_row_g rfl 23 _ rfl _ rfl _ _ _ _ y1 Try.underlying23 rfl (by kernel_rfl) ?_)
  refine hck.mono ?_; rintro e w2 ⟨rfl, hb2⟩
  have i2 := i1.call hb2
  go_wp2_with fail
  go_ret2
  exact ⟨rfl, i2⟩
set_option maxRecDepth 100000 in
set_option maxHeartbeats 6400000 in
theorem within_ok (A : Option Addr) (n c : Nat) (L : List Pc) (p : P2) (d : Int) (w : World) (hR : Pcs w w.heap.size A n L) (hm : n ≤ maxLen) (hn : ncE L p = 0) :
    Calls Try.prog 44 #[.slice A n c, p.V, .int .i64 d] w (WiP L p d n w) := by
  have hll := hR.len
  have hn4 : n ≤ 4096 := by
    unfold ncE pcE at hn
    rw [hll] at hn
    by_cases h : 4096 < n
    · rw [if_pos h] at hn; simp at hn
    · omega
  obtain ⟨i0, hi0, hz1, hz2, hz3⟩ := info_parts int_info
  have HI := Lib.hid hi0; clear hi0
  have i1 := (BI.start w).alloc (.cells p.A 23)
  have y1 := Blk.new w 23 p.A
  have hck := ncheck_any A n c L p _ ((hR.below i1.b).more i1.b.size) hm
  rw [hn] at hck
  clear hn hm
  go_enter Try.func44, Try.ntmps44
  go_wp2_with (first | refine wpList_row_g rfl 23 _ rfl _ rfl _ _ _ _ y1 Try.underlying23 rfl (by kernel_rfl) ?_)
  refine hck.mono ?_; rintro e w2 ⟨rfl, hb2⟩
  have i2 := i1.call hb2
  have y2 := y1.below hb2 y1.lt
  clear i1 y1 hb2 hck
  go_wp2_with fail
  go_loopw [9, 20] (fun v i wr => ∃ k : Nat, i = .int .i64 k ∧ k ≤ n ∧ BI w wr ∧ Blk wr w.heap.size 23 p.A ∧ wr.ownsRow w.heap.size 3 1 v (wiL L p d k).length (inV (wiL L p d k))) (fun _ i _ => n - (intOf i).toNat)
  case atStart => exact ⟨0, rfl, Nat.zero_le _, i2, y2, World.ownsRow_nil _ _ _ _⟩
  case round =>
    clear i2 y2
    obtain ⟨k, rfl, hk, hb, hy, ho⟩ := hrel
    by_cases hlt : k < n
    · have hlt' : (k : Int) < (n : Int) := by omega
      obtain ⟨ad, rfl, hrow⟩ := (hR.below hb.b).row hlt
      have HD := Lib.hid (show far_ L p k = distV (pc_ L k).p p from rfl)
      have HW := Lib.hid (show wiL L p d (k + 1) = if far_ L p k ≤ d then wiL L p d k ++ [k] else wiL L p d k from rfl)
      have hwl := wiL_len L p d k
      obtain ⟨a, ha⟩ : ∃ a, pc_ L k = a := ⟨_, rfl⟩
      rw [ha] at hrow HD
      have hdi := dist_any a.p p
      obtain ⟨D, hD⟩ : ∃ D, distV a.p p = D := ⟨_, rfl⟩
      rw [hD] at HD
      rw [HD.out] at HW
      simp only [hD] at hdi
      clear ha hD
      obtain ⟨l, hl⟩ : ∃ l, wiL L p d k = l := ⟨_, rfl⟩
      rw [hl] at HW ho hwl
      clear hl
      obtain ⟨xs, hxs⟩ : ∃ xs, inV l = xs := ⟨_, rfl⟩
      rw [hxs] at ho
      have HXS := Lib.hid hxs; clear hxs
      obtain ⟨ln, hln⟩ : ∃ ln, l.length = ln := ⟨_, rfl⟩
      rw [hln] at ho hwl
      have HLN := Lib.hid hln; clear hln
      have i4 := hb.alloc (.cells a.C 67)
      have z4 := Blk.new wr 67 a.C
      have y4 := hy.alloc (.cells a.C 67)
      have o4 := ho.alloc (.cells a.C 67)
      clear ho hb hy
      go_wp2_with (first | refine wpList_at_g rfl 67 _ rfl w.heap.size _ a.C rfl _ hrow Try.underlying67 rfl (by kernel_rfl) ?_ | refine wpList_store_new rfl 67 _ _ rfl rfl wr.heap.size a.C rfl rfl _ ZP wr rfl rfl rfl (by kernel_rfl) (by kernel_rfl) ?_ | refine wpList_seg_g rfl 23 _ rfl _ 1 a.p.A rfl _ _ _ _ z4 Try.underlying23 rfl (by kernel_rfl) rfl ?_ | refine wpList_row_g rfl 23 _ rfl _ rfl _ _ _ _ y4 Try.underlying23 rfl (by kernel_rfl) ?_)
      refine (hdi _).mono ?_; rintro e w5 ⟨rfl, hb5⟩
      have i5 := i4.call hb5
      have y5 := y4.below hb5 y4.lt
      have o5 := own_below o4 hb5
      clear i4 y4 o4 z4 hb5 hrow
      by_cases hd : D ≤ d
      · rw [if_pos hd] at HW
        go_wp2_with (at_builtin; refine wpList_append_own _ rfl _ _ 69 rfl w.heap.size 3 i0 (.int .i64 0) 1 8 Try.underlying69 HI.out hz1 hz2 hz3 rfl (by decide) _ _ _ rfl (o5.alloc _) ⟨w5.heap.size, 0, none⟩ 1 1 [.int .i64 (k : Int)] rfl rfl (cell_one_new _ _ _) (by simp [Value.oneCell']) (by unfold maxLen; omega) (by omega) (by have := i5.b.size; simp; omega) ?_; intro v1 w6 o6 g6 _)
        have i6 : BI w w6 := (i5.alloc (.cells #[.int .i64 (k : Int)] 3)).b.grown g6 (i5.alloc (.cells #[.int .i64 (k : Int)] 3)).b.size (fun g e => ((o5.alloc (.cells #[.int .i64 (k : Int)] 3)).lt g e).1)
        have y6 : Blk w6 w.heap.size 23 p.A := (y5.alloc (.cells #[.int .i64 (k : Int)] 3)).grown g6 (fun e => own_blk_ne (o5.alloc (.cells #[.int .i64 (k : Int)] 3)) (y5.alloc (.cells #[.int .i64 (k : Int)] 3)) (by decide) e.symm)
        have HR := Lib.hid (show w6.ownsRow w.heap.size 3 1 v1 (wiL L p d (k + 1)).length (inV (wiL L p d (k + 1))) from by
          rw [HW.out, List.length_append, List.length_singleton, HLN.out]
          rw [show inV (l ++ [k]) = inV l ++ [.int .i64 (k : Int)] from List.map_append .., HXS.out]; exact o6)
        clear o5 o6 g6 i5 y5
        try go_wp2_with fail
        go_roundw
        case rel => exact ⟨k + 1, by go_num, by omega, i6, y6, HR.out⟩
        case measure => simp [intOf]; omega
      · rw [if_neg hd] at HW
        have HR := Lib.hid (show w5.ownsRow w.heap.size 3 1 u9 (wiL L p d (k + 1)).length (inV (wiL L p d (k + 1))) from by rw [HW.out, HLN.out, HXS.out]; exact o5)
        clear o5
        go_wp2_with fail
        go_roundw
        case rel => exact ⟨k + 1, by go_num, by omega, i5, y5, HR.out⟩
        case measure => simp [intOf]; omega
    · obtain rfl : k = n := by omega
      have hlt' : ¬ (k : Int) < (k : Int) := by omega
      have HR := Lib.hid ho
      clear ho
      go_wp2_with fail
      go_ret2
      exact ⟨_, rfl, hb, HR.out⟩
end Go.Proofs.Ytoiccljmdplfgaa.Nr
