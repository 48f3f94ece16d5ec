/-
  LAW 13's lives: walked.
-/
import Derived.Test.YtidblajnlddalaaLk5
import Derived.Test.YtidblajnlddalaaSm
namespace Go.Proofs.Ytidblajnlddalaa.Lk
open Go.ChangeShapes Go.WideShapes Go.ChangeAt Go.RowKit Go.Shelf
open Go.Proofs.Ytidblajnlddalaa
open Go.Proofs.Ytidblajnlddalaa.Wd
open Go.Proofs.Ytidblajnlddalaa.Sl
open Go.Proofs.Ytidblajnlddalaa.Sr
set_option linter.unusedVariables false
set_option linter.unusedSimpArgs false
abbrev S0 : So := ⟨[], [⟨⟨#[65]⟩, none, 0, 0, []⟩, ⟨⟨#[66]⟩, none, 0, 0, []⟩], [⟨⟨#[67]⟩, ⟨#[68]⟩⟩, ⟨⟨#[66]⟩, ⟨#[67]⟩⟩, ⟨⟨#[70]⟩, ⟨#[69]⟩⟩, ⟨⟨#[69]⟩, ⟨#[70]⟩⟩, ⟨⟨#[120]⟩, ⟨#[71]⟩⟩]⟩
abbrev N0 : Net Key := net S0
theorem ld_D : lead N0 [68] = ⟨1, 0⟩ := lead_of N0 (k := 5) (by decide)
theorem ld_C : lead N0 [67] = ⟨1, 0⟩ := lead_of N0 (k := 5) (by decide)
theorem ld_B : lead N0 [66] = ⟨1, 0⟩ := lead_of N0 (k := 5) (by decide)
theorem ld_A : lead N0 [65] = ⟨0, 0⟩ := lead_of N0 (k := 5) (by decide)
theorem ld_G : lead N0 [71] = ⟨0, 3⟩ := lead_of N0 (k := 5) (by decide)
theorem ld_E : lead N0 [69] = ⟨0, 9⟩ := by
  have h1 : Goes N0 [69] ([] ++ [[69]]) [70] := (Goes.nil _).snoc (by decide) (by decide)
  have h2 : Goes N0 [69] ([] ++ [[69]] ++ [[70]]) [69] := h1.snoc (by decide) (by decide)
  exact lead_no N0 (h2.round (by decide))
theorem ld_F : lead N0 [70] = ⟨0, 9⟩ := by rw [lead_step N0 (n := [70]) (m := [69]) (by decide) (by decide)]; exact ld_E
theorem al_C : alL S0 ⟨#[67]⟩ = [[66], [68], [67]] := by
  unfold alL
  have e : lead (net S0) (key ⟨#[67]⟩) = ⟨1, 0⟩ := ld_C
  rw [e, if_pos rfl, onceP_congr (q := fun x => decide (x = [66] ∨ x = [67] ∨ x = [68])) (fun x hx => by
    have : x ∈ [[65], [66], [68], [67], [69], [70], [71]] := hx
    simp only [List.mem_cons, List.not_mem_nil, or_false] at this
    rcases this with rfl | rfl | rfl | rfl | rfl | rfl | rfl
    · rw [ld_A]; decide
    · rw [ld_B]; decide
    · rw [ld_D]; decide
    · rw [ld_C]; decide
    · rw [ld_E]; decide
    · rw [ld_F]; decide
    · rw [ld_G]; decide)]
  decide
theorem al_E : alL S0 ⟨#[69]⟩ = [] := by
  unfold alL
  have e : lead (net S0) (key ⟨#[69]⟩) = ⟨0, 9⟩ := ld_E
  rw [e, if_neg (by decide)]
theorem keys_inj {a b : List ByteArray} (h : keys a = keys b) : a = b := by
  induction a generalizing b with
  | nil => cases b with
    | nil => rfl
    | cons y b => cases h
  | cons x a ih => cases b with
    | nil => cases h
    | cons y b =>
      unfold keys at h
      rw [List.map_cons, List.map_cons, List.cons.injEq] at h
      rw [key_inj h.1, ih h.2]
abbrev Q0 (g1 g2 : Nat) : Hd := ⟨none, 0, 0, some ⟨g1, 0, none⟩, 2, 2, some ⟨g2, 0, none⟩, 5, 5⟩
theorem s0_ok {W : World} {g1 g2 : Nat} (x1 : Blk W g1 36 #[.string ⟨#[65]⟩, .slice none 0 0, .string ⟨#[66]⟩, .slice none 0 0]) (x2 : Blk W g2 39 #[.string ⟨#[67]⟩, .string ⟨#[68]⟩, .string ⟨#[66]⟩, .string ⟨#[67]⟩, .string ⟨#[70]⟩, .string ⟨#[69]⟩, .string ⟨#[69]⟩, .string ⟨#[70]⟩, .string ⟨#[120]⟩, .string ⟨#[71]⟩]) : SoR W W.heap.size (Q0 g1 g2) S0 where
  r := Sls.none_
  z := Sls.of_blk (f := Zn.C) (sz := 2) (L := S0.zs) (fun _ => rfl) x1 rfl
  l := Sls.of_blk (f := Li.C) (sz := 2) (L := S0.ls) (fun _ => rfl) x2 rfl
  rb := fun a ha => absurd ha List.not_mem_nil
  zb := fun a ha => by
    simp only [List.mem_cons, List.not_mem_nil, or_false] at ha
    rcases ha with rfl | rfl <;> exact ⟨by unfold maxLen; decide, Sls.none_, fun e he => absurd he List.not_mem_nil, Nat.zero_le _, Nat.le_refl _⟩
  lb := fun a ha => by
    simp only [List.mem_cons, List.not_mem_nil, or_false] at ha
    rcases ha with rfl | rfl | rfl | rfl | rfl <;> exact ⟨by unfold maxLen; decide, by unfold maxLen; decide⟩
  rm := ⟨Nat.zero_le _, Nat.le_refl _⟩
  zm := ⟨show 2 ≤ maxLen by unfold maxLen; decide, Nat.le_refl _⟩
  lm := ⟨show 5 ≤ maxLen by unfold maxLen; decide, Nat.le_refl _⟩
theorem txs_blk {W : World} {g : Nat} {t : TypeId} {l : List ByteArray} {cs : Array Value} (x : Blk W g t cs) (h : cs.toList = stV l) (hp : ∀ s ∈ l, s.size ≤ maxLen) : Txs W W.heap.size (some ⟨g, 0, none⟩) l.length l := by
  refine ⟨rfl, ⟨by simp, fun _ => ⟨⟨g, 0, none⟩, rfl, x.lt, fun j u hu => ?_⟩⟩, hp⟩
  rw [show (⟨g, 0, none⟩ : Addr).add j = ⟨g, j, none⟩ by unfold Addr.add; split <;> simp_all, x.cell, ← hu, ← h, Array.getElem?_toList]
theorem z_D {W : World} {g1 g2 : Nat} (x1 : Blk W g1 36 #[.string ⟨#[65]⟩, .slice none 0 0, .string ⟨#[66]⟩, .slice none 0 0]) (x2 : Blk W g2 39 #[.string ⟨#[67]⟩, .string ⟨#[68]⟩, .string ⟨#[66]⟩, .string ⟨#[67]⟩, .string ⟨#[70]⟩, .string ⟨#[69]⟩, .string ⟨#[69]⟩, .string ⟨#[70]⟩, .string ⟨#[120]⟩, .string ⟨#[71]⟩]) : Calls Try.prog 6 #[(Q0 g1 g2).V, .string ⟨#[68]⟩] W fun e w' => e = .returned (.tuple #[.int .i64 1, .int .i64 0]) ∧ Below W.heap.size W w' := by
  have := zone_any (Q0 g1 g2) S0 ⟨#[68]⟩ W (s0_ok x1 x2) (by unfold maxLen; decide) (show 2 ≤ 100000 by decide) (show 5 ≤ 100000 by decide)
  rw [show lead (net S0) (key ⟨#[68]⟩) = ⟨1, 0⟩ from ld_D] at this
  exact this
theorem z_E {W : World} {g1 g2 : Nat} (x1 : Blk W g1 36 #[.string ⟨#[65]⟩, .slice none 0 0, .string ⟨#[66]⟩, .slice none 0 0]) (x2 : Blk W g2 39 #[.string ⟨#[67]⟩, .string ⟨#[68]⟩, .string ⟨#[66]⟩, .string ⟨#[67]⟩, .string ⟨#[70]⟩, .string ⟨#[69]⟩, .string ⟨#[69]⟩, .string ⟨#[70]⟩, .string ⟨#[120]⟩, .string ⟨#[71]⟩]) : Calls Try.prog 6 #[(Q0 g1 g2).V, .string ⟨#[69]⟩] W fun e w' => e = .returned (.tuple #[.int .i64 0, .int .i64 9]) ∧ Below W.heap.size W w' := by
  have := zone_any (Q0 g1 g2) S0 ⟨#[69]⟩ W (s0_ok x1 x2) (by unfold maxLen; decide) (show 2 ≤ 100000 by decide) (show 5 ≤ 100000 by decide)
  rw [show lead (net S0) (key ⟨#[69]⟩) = ⟨0, 9⟩ from ld_E] at this
  exact this
theorem z_G {W : World} {g1 g2 : Nat} (x1 : Blk W g1 36 #[.string ⟨#[65]⟩, .slice none 0 0, .string ⟨#[66]⟩, .slice none 0 0]) (x2 : Blk W g2 39 #[.string ⟨#[67]⟩, .string ⟨#[68]⟩, .string ⟨#[66]⟩, .string ⟨#[67]⟩, .string ⟨#[70]⟩, .string ⟨#[69]⟩, .string ⟨#[69]⟩, .string ⟨#[70]⟩, .string ⟨#[120]⟩, .string ⟨#[71]⟩]) : Calls Try.prog 6 #[(Q0 g1 g2).V, .string ⟨#[71]⟩] W fun e w' => e = .returned (.tuple #[.int .i64 0, .int .i64 3]) ∧ Below W.heap.size W w' := by
  have := zone_any (Q0 g1 g2) S0 ⟨#[71]⟩ W (s0_ok x1 x2) (by unfold maxLen; decide) (show 2 ≤ 100000 by decide) (show 5 ≤ 100000 by decide)
  rw [show lead (net S0) (key ⟨#[71]⟩) = ⟨0, 3⟩ from ld_G] at this
  exact this
theorem z_A {W : World} {g1 g2 : Nat} (x1 : Blk W g1 36 #[.string ⟨#[65]⟩, .slice none 0 0, .string ⟨#[66]⟩, .slice none 0 0]) (x2 : Blk W g2 39 #[.string ⟨#[67]⟩, .string ⟨#[68]⟩, .string ⟨#[66]⟩, .string ⟨#[67]⟩, .string ⟨#[70]⟩, .string ⟨#[69]⟩, .string ⟨#[69]⟩, .string ⟨#[70]⟩, .string ⟨#[120]⟩, .string ⟨#[71]⟩]) : Calls Try.prog 6 #[(Q0 g1 g2).V, .string ⟨#[65]⟩] W fun e w' => e = .returned (.tuple #[.int .i64 0, .int .i64 0]) ∧ Below W.heap.size W w' := by
  have := zone_any (Q0 g1 g2) S0 ⟨#[65]⟩ W (s0_ok x1 x2) (by unfold maxLen; decide) (show 2 ≤ 100000 by decide) (show 5 ≤ 100000 by decide)
  rw [show lead (net S0) (key ⟨#[65]⟩) = ⟨0, 0⟩ from ld_A] at this
  exact this
theorem c_D {W : World} {g1 g2 : Nat} (x1 : Blk W g1 36 #[.string ⟨#[65]⟩, .slice none 0 0, .string ⟨#[66]⟩, .slice none 0 0]) (x2 : Blk W g2 39 #[.string ⟨#[67]⟩, .string ⟨#[68]⟩, .string ⟨#[66]⟩, .string ⟨#[67]⟩, .string ⟨#[70]⟩, .string ⟨#[69]⟩, .string ⟨#[69]⟩, .string ⟨#[70]⟩, .string ⟨#[120]⟩, .string ⟨#[71]⟩]) : Calls Try.prog 7 #[(Q0 g1 g2).V, .string ⟨#[68]⟩] W fun e w' => ∃ (A : Option Addr) (c : Nat), e = .returned (.slice A 3 c) ∧ Txs w' w'.heap.size A 3 [⟨#[68]⟩, ⟨#[67]⟩, ⟨#[66]⟩] ∧ Below W.heap.size W w' :=
  (chain_any (Q0 g1 g2) S0 ⟨#[68]⟩ W (s0_ok x1 x2) (by unfold maxLen; decide) (show 2 ≤ 100000 by decide) (show 5 ≤ 100000 by decide)).mono fun e w' ⟨A1, c1, cb, h1, ⟨h2, h3⟩, h4⟩ => by
    have hk : keys cb = [[68], [67], [66]] := h3.same (n := 7) (by decide) (by have := h3.len; have e : (net S0).ls.length = 5 := rfl; omega)
    have hc : cb = [⟨#[68]⟩, ⟨#[67]⟩, ⟨#[66]⟩] := keys_inj (hk.trans rfl)
    subst hc
    exact ⟨A1, c1, h1, h2, h4⟩
theorem c_E {W : World} {g1 g2 : Nat} (x1 : Blk W g1 36 #[.string ⟨#[65]⟩, .slice none 0 0, .string ⟨#[66]⟩, .slice none 0 0]) (x2 : Blk W g2 39 #[.string ⟨#[67]⟩, .string ⟨#[68]⟩, .string ⟨#[66]⟩, .string ⟨#[67]⟩, .string ⟨#[70]⟩, .string ⟨#[69]⟩, .string ⟨#[69]⟩, .string ⟨#[70]⟩, .string ⟨#[120]⟩, .string ⟨#[71]⟩]) : Calls Try.prog 7 #[(Q0 g1 g2).V, .string ⟨#[69]⟩] W fun e w' => ∃ (A : Option Addr) (c : Nat), e = .returned (.slice A 2 c) ∧ Txs w' w'.heap.size A 2 [⟨#[69]⟩, ⟨#[70]⟩] ∧ Below W.heap.size W w' :=
  (chain_any (Q0 g1 g2) S0 ⟨#[69]⟩ W (s0_ok x1 x2) (by unfold maxLen; decide) (show 2 ≤ 100000 by decide) (show 5 ≤ 100000 by decide)).mono fun e w' ⟨A1, c1, cb, h1, ⟨h2, h3⟩, h4⟩ => by
    have hk : keys cb = [[69], [70]] := h3.same (n := 7) (by decide) (by have := h3.len; have e : (net S0).ls.length = 5 := rfl; omega)
    have hc : cb = [⟨#[69]⟩, ⟨#[70]⟩] := keys_inj (hk.trans rfl)
    subst hc
    exact ⟨A1, c1, h1, h2, h4⟩
theorem a_C {W : World} {g1 g2 : Nat} (x1 : Blk W g1 36 #[.string ⟨#[65]⟩, .slice none 0 0, .string ⟨#[66]⟩, .slice none 0 0]) (x2 : Blk W g2 39 #[.string ⟨#[67]⟩, .string ⟨#[68]⟩, .string ⟨#[66]⟩, .string ⟨#[67]⟩, .string ⟨#[70]⟩, .string ⟨#[69]⟩, .string ⟨#[69]⟩, .string ⟨#[70]⟩, .string ⟨#[120]⟩, .string ⟨#[71]⟩]) : Calls Try.prog 8 #[(Q0 g1 g2).V, .string ⟨#[67]⟩] W fun e w' => ∃ (A : Option Addr) (c : Nat), e = .returned (.slice A 3 c) ∧ Txs w' w'.heap.size A 3 [⟨#[66]⟩, ⟨#[68]⟩, ⟨#[67]⟩] ∧ Below W.heap.size W w' :=
  (aliases_any (Q0 g1 g2) S0 ⟨#[67]⟩ W (s0_ok x1 x2) (by unfold maxLen; decide) (show 2 ≤ 40 by decide) (show 5 ≤ 40 by decide)).mono fun e w' ⟨A1, c1, l, h1, h2, h3, h4⟩ => by
    have hc : l = [⟨#[66]⟩, ⟨#[68]⟩, ⟨#[67]⟩] := keys_inj (h3.trans al_C)
    subst hc
    exact ⟨A1, c1, h1, h2, h4⟩
theorem a_E {W : World} {g1 g2 : Nat} (x1 : Blk W g1 36 #[.string ⟨#[65]⟩, .slice none 0 0, .string ⟨#[66]⟩, .slice none 0 0]) (x2 : Blk W g2 39 #[.string ⟨#[67]⟩, .string ⟨#[68]⟩, .string ⟨#[66]⟩, .string ⟨#[67]⟩, .string ⟨#[70]⟩, .string ⟨#[69]⟩, .string ⟨#[69]⟩, .string ⟨#[70]⟩, .string ⟨#[120]⟩, .string ⟨#[71]⟩]) : Calls Try.prog 8 #[(Q0 g1 g2).V, .string ⟨#[69]⟩] W fun e w' => ∃ (A : Option Addr) (c : Nat), e = .returned (.slice A 0 c) ∧ Txs w' w'.heap.size A 0 [] ∧ Below W.heap.size W w' :=
  (aliases_any (Q0 g1 g2) S0 ⟨#[69]⟩ W (s0_ok x1 x2) (by unfold maxLen; decide) (show 2 ≤ 40 by decide) (show 5 ≤ 40 by decide)).mono fun e w' ⟨A1, c1, l, h1, h2, h3, h4⟩ => by
    have hc : l = [] := keys_inj (h3.trans al_E)
    subst hc
    exact ⟨A1, c1, h1, h2, h4⟩
set_option maxRecDepth 100000 in
set_option maxHeartbeats 12800000 in
theorem lives13_any (w : World) : Calls Try.prog 4 #[] w fun e w' => e = .returned (.bool true) ∧ Below w.heap.size w w' := by
  have x1 := ((Blk.new w 36 #[.string ⟨#[65]⟩, .slice none 0 0, .string ⟨#[66]⟩, .slice none 0 0]).alloc (.cells #[.string ⟨#[67]⟩, .string ⟨#[68]⟩, .string ⟨#[66]⟩, .string ⟨#[67]⟩, .string ⟨#[70]⟩, .string ⟨#[69]⟩, .string ⟨#[69]⟩, .string ⟨#[70]⟩, .string ⟨#[120]⟩, .string ⟨#[71]⟩] 39)).alloc (.cells (Q0 w.heap.size (w.heap.size + 1)).C 26)
  have x2 := (blk_at (w.alloc (.cells #[.string ⟨#[65]⟩, .slice none 0 0, .string ⟨#[66]⟩, .slice none 0 0] 36)) 39 #[.string ⟨#[67]⟩, .string ⟨#[68]⟩, .string ⟨#[66]⟩, .string ⟨#[67]⟩, .string ⟨#[70]⟩, .string ⟨#[69]⟩, .string ⟨#[69]⟩, .string ⟨#[70]⟩, .string ⟨#[120]⟩, .string ⟨#[71]⟩] (sz1 _ _ rfl)).alloc (.cells (Q0 w.heap.size (w.heap.size + 1)).C 26)
  have x3 := blk_at ((w.alloc (.cells #[.string ⟨#[65]⟩, .slice none 0 0, .string ⟨#[66]⟩, .slice none 0 0] 36)).alloc (.cells #[.string ⟨#[67]⟩, .string ⟨#[68]⟩, .string ⟨#[66]⟩, .string ⟨#[67]⟩, .string ⟨#[70]⟩, .string ⟨#[69]⟩, .string ⟨#[69]⟩, .string ⟨#[70]⟩, .string ⟨#[120]⟩, .string ⟨#[71]⟩] 39)) 26 (Q0 w.heap.size (w.heap.size + 1)).C (sz1 _ _ (sz1 _ _ rfl))
  have i1 := bal (bal (bal (Below.refl _ w) (.cells #[.string ⟨#[65]⟩, .slice none 0 0, .string ⟨#[66]⟩, .slice none 0 0] 36)) (.cells #[.string ⟨#[67]⟩, .string ⟨#[68]⟩, .string ⟨#[66]⟩, .string ⟨#[67]⟩, .string ⟨#[70]⟩, .string ⟨#[69]⟩, .string ⟨#[69]⟩, .string ⟨#[70]⟩, .string ⟨#[120]⟩, .string ⟨#[71]⟩] 39)) (.cells (Q0 w.heap.size (w.heap.size + 1)).C 26)
  go_enter Try.func4, Try.ntmps4
  go_upto_region 2 with fail
  generalize ((w.alloc (.cells #[.string ⟨#[65]⟩, .slice none 0 0, .string ⟨#[66]⟩, .slice none 0 0] 36)).alloc (.cells #[.string ⟨#[67]⟩, .string ⟨#[68]⟩, .string ⟨#[66]⟩, .string ⟨#[67]⟩, .string ⟨#[70]⟩, .string ⟨#[69]⟩, .string ⟨#[69]⟩, .string ⟨#[70]⟩, .string ⟨#[120]⟩, .string ⟨#[71]⟩] 39)).alloc (.cells (Q0 w.heap.size (w.heap.size + 1)).C 26) = W0 at *
  go_wp2_with (refine wpList_row_g rfl 26 _ rfl _ rfl _ _ _ _ x3 Try.underlying26 rfl (by kernel_rfl) ?_)
  refine (z_D x1 x2).mono ?_; rintro e w2 ⟨rfl, hb⟩
  replace x1 := x1.below hb x1.lt; replace x2 := x2.below hb x2.lt; replace x3 := x3.below hb x3.lt; replace i1 := i1.trans (hb.mono i1.size)
  clear hb
  go_wp2_with (refine wpList_row_g rfl 26 _ rfl _ rfl _ _ _ _ x3 Try.underlying26 rfl (by kernel_rfl) ?_)
  refine (z_E x1 x2).mono ?_; rintro e w3 ⟨rfl, hb⟩
  replace x1 := x1.below hb x1.lt; replace x2 := x2.below hb x2.lt; replace x3 := x3.below hb x3.lt; replace i1 := i1.trans (hb.mono i1.size)
  clear hb
  go_wp2_with (refine wpList_row_g rfl 26 _ rfl _ rfl _ _ _ _ x3 Try.underlying26 rfl (by kernel_rfl) ?_)
  refine (z_G x1 x2).mono ?_; rintro e w4 ⟨rfl, hb⟩
  replace x1 := x1.below hb x1.lt; replace x2 := x2.below hb x2.lt; replace x3 := x3.below hb x3.lt; replace i1 := i1.trans (hb.mono i1.size)
  clear hb
  go_wp2_with (refine wpList_row_g rfl 26 _ rfl _ rfl _ _ _ _ x3 Try.underlying26 rfl (by kernel_rfl) ?_)
  refine (z_A x1 x2).mono ?_; rintro e w5 ⟨rfl, hb⟩
  replace x1 := x1.below hb x1.lt; replace x2 := x2.below hb x2.lt; replace x3 := x3.below hb x3.lt; replace i1 := i1.trans (hb.mono i1.size)
  clear hb
  go_wp2_with (refine wpList_row_g rfl 26 _ rfl _ rfl _ _ _ _ x3 Try.underlying26 rfl (by kernel_rfl) ?_)
  refine (c_D x1 x2).mono ?_; rintro e w6 ⟨A1, c1, rfl, ht, hb⟩
  replace x1 := x1.below hb x1.lt; replace x2 := x2.below hb x2.lt; replace x3 := x3.below hb x3.lt; replace i1 := i1.trans (hb.mono i1.size)
  clear hb
  have ht2 := ((ht.below (bal (Below.refl _ w6) (.cells #[.string ⟨#[68]⟩, .string ⟨#[67]⟩, .string ⟨#[66]⟩] 9))).more (bal (Below.refl _ w6) (.cells #[.string ⟨#[68]⟩, .string ⟨#[67]⟩, .string ⟨#[66]⟩] 9)).size)
  have y := Blk.new w6 9 #[.string ⟨#[68]⟩, .string ⟨#[67]⟩, .string ⟨#[66]⟩]
  have hl := txs_blk (l := [⟨#[68]⟩, ⟨#[67]⟩, ⟨#[66]⟩]) y rfl (by intro t ht; simp only [List.mem_cons, List.not_mem_nil, or_false] at ht; rcases ht with rfl | rfl | rfl <;> (unfold maxLen; decide))
  replace x1 := x1.alloc (.cells #[.string ⟨#[68]⟩, .string ⟨#[67]⟩, .string ⟨#[66]⟩] 9); replace x2 := x2.alloc (.cells #[.string ⟨#[68]⟩, .string ⟨#[67]⟩, .string ⟨#[66]⟩] 9); replace x3 := x3.alloc (.cells #[.string ⟨#[68]⟩, .string ⟨#[67]⟩, .string ⟨#[66]⟩] 9); replace i1 := bal i1 (.cells #[.string ⟨#[68]⟩, .string ⟨#[67]⟩, .string ⟨#[66]⟩] 9)
  have htx := texts_any A1 3 c1 [⟨#[68]⟩, ⟨#[67]⟩, ⟨#[66]⟩] (some ⟨w6.heap.size, 0, none⟩) 3 3 [⟨#[68]⟩, ⟨#[67]⟩, ⟨#[66]⟩] _ ht2 hl (by unfold maxLen; decide) (by unfold maxLen; decide)
  rw [decide_eq_true rfl] at htx
  go_wp2_with fail
  refine htx.mono ?_; rintro e w7 ⟨rfl, hb⟩
  replace x1 := x1.below hb x1.lt; replace x2 := x2.below hb x2.lt; replace x3 := x3.below hb x3.lt; replace i1 := i1.trans (hb.mono i1.size)
  clear hb ht ht2 y hl htx
  go_wp2_with (refine wpList_row_g rfl 26 _ rfl _ rfl _ _ _ _ x3 Try.underlying26 rfl (by kernel_rfl) ?_)
  refine (c_E x1 x2).mono ?_; rintro e w8 ⟨A1, c1, rfl, ht, hb⟩
  replace x1 := x1.below hb x1.lt; replace x2 := x2.below hb x2.lt; replace x3 := x3.below hb x3.lt; replace i1 := i1.trans (hb.mono i1.size)
  clear hb
  have ht2 := ((ht.below (bal (Below.refl _ w8) (.cells #[.string ⟨#[69]⟩, .string ⟨#[70]⟩] 9))).more (bal (Below.refl _ w8) (.cells #[.string ⟨#[69]⟩, .string ⟨#[70]⟩] 9)).size)
  have y := Blk.new w8 9 #[.string ⟨#[69]⟩, .string ⟨#[70]⟩]
  have hl := txs_blk (l := [⟨#[69]⟩, ⟨#[70]⟩]) y rfl (by intro t ht; simp only [List.mem_cons, List.not_mem_nil, or_false] at ht; rcases ht with rfl | rfl <;> (unfold maxLen; decide))
  replace x1 := x1.alloc (.cells #[.string ⟨#[69]⟩, .string ⟨#[70]⟩] 9); replace x2 := x2.alloc (.cells #[.string ⟨#[69]⟩, .string ⟨#[70]⟩] 9); replace x3 := x3.alloc (.cells #[.string ⟨#[69]⟩, .string ⟨#[70]⟩] 9); replace i1 := bal i1 (.cells #[.string ⟨#[69]⟩, .string ⟨#[70]⟩] 9)
  have htx := texts_any A1 2 c1 [⟨#[69]⟩, ⟨#[70]⟩] (some ⟨w8.heap.size, 0, none⟩) 2 2 [⟨#[69]⟩, ⟨#[70]⟩] _ ht2 hl (by unfold maxLen; decide) (by unfold maxLen; decide)
  rw [decide_eq_true rfl] at htx
  go_wp2_with fail
  refine htx.mono ?_; rintro e w9 ⟨rfl, hb⟩
  replace x1 := x1.below hb x1.lt; replace x2 := x2.below hb x2.lt; replace x3 := x3.below hb x3.lt; replace i1 := i1.trans (hb.mono i1.size)
  clear hb ht ht2 y hl htx
  go_wp2_with (refine wpList_row_g rfl 26 _ rfl _ rfl _ _ _ _ x3 Try.underlying26 rfl (by kernel_rfl) ?_)
  refine (a_C x1 x2).mono ?_; rintro e w10 ⟨A1, c1, rfl, ht, hb⟩
  replace x1 := x1.below hb x1.lt; replace x2 := x2.below hb x2.lt; replace x3 := x3.below hb x3.lt; replace i1 := i1.trans (hb.mono i1.size)
  clear hb
  have ht2 := ((ht.below (bal (Below.refl _ w10) (.cells #[.string ⟨#[66]⟩, .string ⟨#[68]⟩, .string ⟨#[67]⟩] 9))).more (bal (Below.refl _ w10) (.cells #[.string ⟨#[66]⟩, .string ⟨#[68]⟩, .string ⟨#[67]⟩] 9)).size)
  have y := Blk.new w10 9 #[.string ⟨#[66]⟩, .string ⟨#[68]⟩, .string ⟨#[67]⟩]
  have hl := txs_blk (l := [⟨#[66]⟩, ⟨#[68]⟩, ⟨#[67]⟩]) y rfl (by intro t ht; simp only [List.mem_cons, List.not_mem_nil, or_false] at ht; rcases ht with rfl | rfl | rfl <;> (unfold maxLen; decide))
  replace x1 := x1.alloc (.cells #[.string ⟨#[66]⟩, .string ⟨#[68]⟩, .string ⟨#[67]⟩] 9); replace x2 := x2.alloc (.cells #[.string ⟨#[66]⟩, .string ⟨#[68]⟩, .string ⟨#[67]⟩] 9); replace x3 := x3.alloc (.cells #[.string ⟨#[66]⟩, .string ⟨#[68]⟩, .string ⟨#[67]⟩] 9); replace i1 := bal i1 (.cells #[.string ⟨#[66]⟩, .string ⟨#[68]⟩, .string ⟨#[67]⟩] 9)
  have htx := texts_any A1 3 c1 [⟨#[66]⟩, ⟨#[68]⟩, ⟨#[67]⟩] (some ⟨w10.heap.size, 0, none⟩) 3 3 [⟨#[66]⟩, ⟨#[68]⟩, ⟨#[67]⟩] _ ht2 hl (by unfold maxLen; decide) (by unfold maxLen; decide)
  rw [decide_eq_true rfl] at htx
  go_wp2_with fail
  refine htx.mono ?_; rintro e w11 ⟨rfl, hb⟩
  replace x1 := x1.below hb x1.lt; replace x2 := x2.below hb x2.lt; replace x3 := x3.below hb x3.lt; replace i1 := i1.trans (hb.mono i1.size)
  clear hb ht ht2 y hl htx
  go_wp2_with (refine wpList_row_g rfl 26 _ rfl _ rfl _ _ _ _ x3 Try.underlying26 rfl (by kernel_rfl) ?_)
  refine (a_E x1 x2).mono ?_; rintro e w12 ⟨A1, c1, rfl, -, hb⟩
  replace x1 := x1.below hb x1.lt; replace x2 := x2.below hb x2.lt; replace x3 := x3.below hb x3.lt; replace i1 := i1.trans (hb.mono i1.size)
  clear hb
  go_wp2_with fail
  go_ret
  exact ⟨rfl, i1⟩
end Go.Proofs.Ytidblajnlddalaa.Lk
