/-
  THE FIRST QUESTION: walked.
-/
import Derived.Test.YtnoaeejdcdeanaaDoorVaJ
namespace Go.Proofs.YtnoaeejdcdeanaaDoor.Va
open Go.ChangeShapes Go.WideShapes Go.ChangeAt Go.RowKit Go.Shelf
open Go.Proofs.YtnoaeejdcdeanaaDoor
open Go.Proofs.YtnoaeejdcdeanaaDoor.Wd
open Go.Proofs.YtnoaeejdcdeanaaDoor.Sr
open Go.Proofs.YtnoaeejdcdeanaaDoor.Sl
set_option linter.unusedVariables false
set_option linter.unusedSimpArgs false
open Go.Proofs.YtnoaeejdcdeanaaDoor.Civ (Tab)
open Go.Proofs.YtnoaeejdcdeanaaDoor.Ab (Tb)
open Go.Proofs.YtnoaeejdcdeanaaDoor.Lk (lead lead_of nmB names_any)
abbrev e7 : Er := ⟨0, 0, 0, ⟨#[]⟩, ⟨#[120]⟩, false, 0, 0, 0, 0, 0, 0, 0⟩
abbrev s7 (g0 : Nat) : So := ⟨[], [⟨⟨#[65]⟩, some ⟨g0, 0, none⟩, 1, 1, [e7]⟩], [⟨⟨#[65]⟩, ⟨#[66]⟩⟩]⟩
abbrev h7 (g1 g2 : Nat) : Hd := ⟨none, 0, 0, some ⟨g1, 0, none⟩, 1, 1, some ⟨g2, 0, none⟩, 1, 1⟩
theorem e7_bd : e7.Bd := ⟨by unfold maxLen; decide, by unfold maxLen; decide, by decide, by decide, by decide, by decide, by decide, by decide, by decide, by decide, by decide, by decide⟩
theorem s7_ok {W : World} {g0 g1 g2 : Nat} (x0 : Blk W g0 56 #[.int .i64 0, .int .u8 0, .int .i64 0, .string ⟨#[]⟩, .string ⟨#[120]⟩, .bool false, .int .i64 0, .int .i64 0, .int .u8 0, .int .i64 0, .int .i64 0, .int .i64 0, .int .u8 0]) (x1 : Blk W g1 59 #[.string ⟨#[65]⟩, .slice (some ⟨g0, 0, none⟩) 1 1]) (x2 : Blk W g2 32 #[.string ⟨#[65]⟩, .string ⟨#[66]⟩]) : SoR W W.heap.size (h7 g1 g2) (s7 g0) where
  r := Sls.none_
  z := Sls.of_blk (f := Zn.C) (sz := 2) (L := (s7 g0).zs) (fun _ => rfl) x1 rfl
  l := Sls.of_blk (f := Li.C) (sz := 2) (L := (s7 g0).ls) (fun _ => rfl) x2 rfl
  rb := fun a ha => absurd ha List.not_mem_nil
  zb := fun a ha => by
    simp only [List.mem_cons, List.not_mem_nil, or_false] at ha
    subst ha
    exact ⟨show (⟨#[65]⟩ : ByteArray).size ≤ maxLen by unfold maxLen; decide, Sls.of_blk (f := Er.C) (sz := 13) (L := [e7]) (fun _ => rfl) x0 rfl, fun e he => by
      have : e = e7 := by simpa using he
      subst this; exact e7_bd, show 1 ≤ maxLen by unfold maxLen; decide, Nat.le_refl _⟩
  lb := fun a ha => by
    simp only [List.mem_cons, List.not_mem_nil, or_false] at ha
    subst ha
    exact ⟨by unfold maxLen; decide, by unfold maxLen; decide⟩
  rm := ⟨Nat.zero_le _, Nat.le_refl _⟩
  zm := ⟨show 1 ≤ maxLen by unfold maxLen; decide, Nat.le_refl _⟩
  lm := ⟨show 1 ≤ maxLen by unfold maxLen; decide, Nat.le_refl _⟩
theorem s7_z (g0 g1 g2 : Nat) : SoZ (h7 g1 g2) (s7 g0) where
  rn := Nat.zero_le _
  zn := show 1 ≤ 12 by decide
  ln := show 1 ≤ 22 by decide
  z := fun a ha => by
    simp only [List.mem_cons, List.not_mem_nil, or_false] at ha
    subst ha
    exact ⟨show 1 ≤ 12 by decide, show (⟨#[65]⟩ : ByteArray).size ≤ 1000 by decide, fun e he => by
      have : e = e7 := by simpa using he
      subst this; exact ⟨by decide, by decide⟩⟩
  r := fun a ha => absurd ha List.not_mem_nil
  l := fun a ha => by
    simp only [List.mem_cons, List.not_mem_nil, or_false] at ha
    subst ha
    exact ⟨by decide, by decide⟩
abbrev n7 : Lk.Net Key := ⟨[[65]], [([65], [66])]⟩
theorem s7_net (g0 : Nat) : net (s7 g0) = n7 := rfl
theorem ld_A : lead n7 [65] = ⟨0, 0⟩ := lead_of n7 (k := 5) (by decide)
theorem ld_B : lead n7 [66] = ⟨0, 0⟩ := lead_of n7 (k := 5) (by decide)
theorem e7_ok : ErOk e7 := ⟨by decide, by decide +kernel, .inl ⟨rfl, rfl, rfl⟩, .inr ⟨rfl, by decide⟩⟩
theorem s7_well (g0 : Nat) : WellP (s7 g0) := by
  refine ⟨⟨fun a ha => absurd ha List.not_mem_nil, fun a ha => ?_, fun a ha => ?_⟩, ?_⟩
  · simp only [List.mem_cons, List.not_mem_nil, or_false] at ha
    subst ha
    refine ⟨show Nv.nmB ⟨#[65]⟩ = true by decide +kernel, Nat.le_refl _, fun i hi => ?_⟩
    have : i = 0 := by
      have : i < 1 := hi
      omega
    subst this
    exact ⟨e7_ok, rfl⟩
  · simp only [List.mem_cons, List.not_mem_nil, or_false] at ha
    subst ha
    exact ⟨by decide +kernel, by decide +kernel⟩
  · have h1 : twK (names (s7 g0)) (names (s7 g0)).length = [] := twK_nil.2 (by
      show ([⟨#[65]⟩, ⟨#[66]⟩] : List ByteArray).Nodup
      simp)
    have h4 : asF (s7 g0) = [] := by
      show [_].flatMap _ = _
      rw [List.flatMap_singleton, asE, show lead (net (s7 g0)) (key ⟨#[65]⟩) = ⟨0, 0⟩ from ld_A]; rfl
    unfold flaws
    rw [h1, h4]
    rfl
theorem z7_B {W : World} {g0 g1 g2 : Nat} (x0 : Blk W g0 56 #[.int .i64 0, .int .u8 0, .int .i64 0, .string ⟨#[]⟩, .string ⟨#[120]⟩, .bool false, .int .i64 0, .int .i64 0, .int .u8 0, .int .i64 0, .int .i64 0, .int .i64 0, .int .u8 0]) (x1 : Blk W g1 59 #[.string ⟨#[65]⟩, .slice (some ⟨g0, 0, none⟩) 1 1]) (x2 : Blk W g2 32 #[.string ⟨#[65]⟩, .string ⟨#[66]⟩]) : Calls Tryd.prog 10 #[(h7 g1 g2).V, .string ⟨#[66]⟩] W fun e w' => e = .returned (.tuple #[.int .i64 0, .int .i64 0]) ∧ Below W.heap.size W w' := by
  have := Lk.zone_any (h7 g1 g2) (s7 g0) ⟨#[66]⟩ W (s7_ok x0 x1 x2) (by unfold maxLen; decide) (show 1 ≤ 100000 by decide) (show 1 ≤ 100000 by decide)
  rw [show lead (net (s7 g0)) (key ⟨#[66]⟩) = ⟨0, 0⟩ from ld_B] at this
  exact this
set_option maxRecDepth 100000 in
set_option maxHeartbeats 6400000 in
theorem begins7_any (w : World) (hT : Tab w) (hTb : Tb w) : Calls Tryd.prog 5 #[] w fun e w' => e = .returned (.bool true) ∧ Below w.heap.size w w' := by
  have z1 : (w.alloc (.cells #[.int .i64 0, .int .u8 0, .int .i64 0, .string ⟨#[]⟩, .string ⟨#[120]⟩, .bool false, .int .i64 0, .int .i64 0, .int .u8 0, .int .i64 0, .int .i64 0, .int .i64 0, .int .u8 0] 56)).heap.size = w.heap.size + 1 := sz1 _ _ rfl
  have z2 : ((w.alloc (.cells #[.int .i64 0, .int .u8 0, .int .i64 0, .string ⟨#[]⟩, .string ⟨#[120]⟩, .bool false, .int .i64 0, .int .i64 0, .int .u8 0, .int .i64 0, .int .i64 0, .int .i64 0, .int .u8 0] 56)).alloc (.cells #[.string ⟨#[65]⟩, .slice (some ⟨w.heap.size, 0, none⟩) 1 1] 59)).heap.size = w.heap.size + 1 + 1 := sz1 _ _ z1
  have z3 : (((w.alloc (.cells #[.int .i64 0, .int .u8 0, .int .i64 0, .string ⟨#[]⟩, .string ⟨#[120]⟩, .bool false, .int .i64 0, .int .i64 0, .int .u8 0, .int .i64 0, .int .i64 0, .int .i64 0, .int .u8 0] 56)).alloc (.cells #[.string ⟨#[65]⟩, .slice (some ⟨w.heap.size, 0, none⟩) 1 1] 59)).alloc (.cells #[.string ⟨#[65]⟩, .string ⟨#[66]⟩] 32)).heap.size = w.heap.size + 1 + 1 + 1 := sz1 _ _ z2
  have x0 := (((Blk.new w 56 #[.int .i64 0, .int .u8 0, .int .i64 0, .string ⟨#[]⟩, .string ⟨#[120]⟩, .bool false, .int .i64 0, .int .i64 0, .int .u8 0, .int .i64 0, .int .i64 0, .int .i64 0, .int .u8 0]).alloc (.cells #[.string ⟨#[65]⟩, .slice (some ⟨w.heap.size, 0, none⟩) 1 1] 59)).alloc (.cells #[.string ⟨#[65]⟩, .string ⟨#[66]⟩] 32)).alloc (.cells #[.slice none 0 0, .slice (some ⟨w.heap.size + 1, 0, none⟩) 1 1, .slice (some ⟨w.heap.size + 1 + 1, 0, none⟩) 1 1] 26)
  have x1 := ((blk_at (w.alloc (.cells #[.int .i64 0, .int .u8 0, .int .i64 0, .string ⟨#[]⟩, .string ⟨#[120]⟩, .bool false, .int .i64 0, .int .i64 0, .int .u8 0, .int .i64 0, .int .i64 0, .int .i64 0, .int .u8 0] 56)) 59 #[.string ⟨#[65]⟩, .slice (some ⟨w.heap.size, 0, none⟩) 1 1] z1).alloc (.cells #[.string ⟨#[65]⟩, .string ⟨#[66]⟩] 32)).alloc (.cells #[.slice none 0 0, .slice (some ⟨w.heap.size + 1, 0, none⟩) 1 1, .slice (some ⟨w.heap.size + 1 + 1, 0, none⟩) 1 1] 26)
  have x2 := (blk_at ((w.alloc (.cells #[.int .i64 0, .int .u8 0, .int .i64 0, .string ⟨#[]⟩, .string ⟨#[120]⟩, .bool false, .int .i64 0, .int .i64 0, .int .u8 0, .int .i64 0, .int .i64 0, .int .i64 0, .int .u8 0] 56)).alloc (.cells #[.string ⟨#[65]⟩, .slice (some ⟨w.heap.size, 0, none⟩) 1 1] 59)) 32 #[.string ⟨#[65]⟩, .string ⟨#[66]⟩] z2).alloc (.cells #[.slice none 0 0, .slice (some ⟨w.heap.size + 1, 0, none⟩) 1 1, .slice (some ⟨w.heap.size + 1 + 1, 0, none⟩) 1 1] 26)
  have x3 := blk_at (((w.alloc (.cells #[.int .i64 0, .int .u8 0, .int .i64 0, .string ⟨#[]⟩, .string ⟨#[120]⟩, .bool false, .int .i64 0, .int .i64 0, .int .u8 0, .int .i64 0, .int .i64 0, .int .i64 0, .int .u8 0] 56)).alloc (.cells #[.string ⟨#[65]⟩, .slice (some ⟨w.heap.size, 0, none⟩) 1 1] 59)).alloc (.cells #[.string ⟨#[65]⟩, .string ⟨#[66]⟩] 32)) 26 #[.slice none 0 0, .slice (some ⟨w.heap.size + 1, 0, none⟩) 1 1, .slice (some ⟨w.heap.size + 1 + 1, 0, none⟩) 1 1] z3
  have b := bal (bal (bal (bal (Below.refl _ w) (.cells #[.int .i64 0, .int .u8 0, .int .i64 0, .string ⟨#[]⟩, .string ⟨#[120]⟩, .bool false, .int .i64 0, .int .i64 0, .int .u8 0, .int .i64 0, .int .i64 0, .int .i64 0, .int .u8 0] 56)) (.cells #[.string ⟨#[65]⟩, .slice (some ⟨w.heap.size, 0, none⟩) 1 1] 59)) (.cells #[.string ⟨#[65]⟩, .string ⟨#[66]⟩] 32)) (.cells #[.slice none 0 0, .slice (some ⟨w.heap.size + 1, 0, none⟩) 1 1, .slice (some ⟨w.heap.size + 1 + 1, 0, none⟩) 1 1] 26)
  have Z3 := Lib.hid z3; clear z1 z2 z3
  go_enter Tryd.func5, Tryd.ntmps5
  go_upto_region 2 with (refine wpList_store_new rfl 26 _ _ rfl rfl (w.heap.size + 1 + 1 + 1) #[.slice none 0 0, .slice (some ⟨w.heap.size + 1, 0, none⟩) 1 1, .slice (some ⟨w.heap.size + 1 + 1, 0, none⟩) 1 1] rfl rfl _ #[.slice none 0 0, .slice none 0 0, .slice none 0 0] (((w.alloc (.cells #[.int .i64 0, .int .u8 0, .int .i64 0, .string ⟨#[]⟩, .string ⟨#[120]⟩, .bool false, .int .i64 0, .int .i64 0, .int .u8 0, .int .i64 0, .int .i64 0, .int .i64 0, .int .u8 0] 56)).alloc (.cells #[.string ⟨#[65]⟩, .slice (some ⟨w.heap.size, 0, none⟩) 1 1] 59)).alloc (.cells #[.string ⟨#[65]⟩, .string ⟨#[66]⟩] 32)) rfl Z3.out.symm rfl (by kernel_rfl) (by kernel_rfl) ?_)
  generalize ((((w.alloc (.cells #[.int .i64 0, .int .u8 0, .int .i64 0, .string ⟨#[]⟩, .string ⟨#[120]⟩, .bool false, .int .i64 0, .int .i64 0, .int .u8 0, .int .i64 0, .int .i64 0, .int .i64 0, .int .u8 0] 56)).alloc (.cells #[.string ⟨#[65]⟩, .slice (some ⟨w.heap.size, 0, none⟩) 1 1] 59)).alloc (.cells #[.string ⟨#[65]⟩, .string ⟨#[66]⟩] 32)).alloc (.cells #[.slice none 0 0, .slice (some ⟨w.heap.size + 1, 0, none⟩) 1 1, .slice (some ⟨w.heap.size + 1 + 1, 0, none⟩) 1 1] 26)) = W at *
  obtain ⟨g0, hg⟩ : ∃ g, w.heap.size = g := ⟨_, rfl⟩
  simp only [hg] at x0 x1 x2 x3 ⊢
  have Hg := Lib.hid hg; clear hg Z3
  obtain ⟨g1, hg1⟩ : ∃ g, g0 + 1 = g := ⟨_, rfl⟩
  obtain ⟨g2, hg2⟩ : ∃ g, g0 + 1 + 1 = g := ⟨_, rfl⟩
  obtain ⟨g3, hg3⟩ : ∃ g, g0 + 1 + 1 + 1 = g := ⟨_, rfl⟩
  rw [hg3, hg2, hg1] at x3
  rw [hg2] at x2
  rw [hg1] at x1
  rw [hg3]
  clear hg1 hg2 hg3
  go_wp2_with (refine wpList_row_g rfl 26 _ rfl _ rfl _ _ _ _ x3 Tryd.underlying26 rfl (by kernel_rfl) ?_)
  refine (z7_B x0 x1 x2).mono ?_; rintro e0 W2 ⟨rfl, hb⟩
  replace x0 := x0.below hb x0.lt; replace x1 := x1.below hb x1.lt; replace x2 := x2.below hb x2.lt; replace x3 := x3.below hb x3.lt; have b2 := b.trans (hb.mono b.size); clear hb b
  have T2 : Tab W2 := hT.below hT.1 b2; have t2 := hTb.bel b2
  have hw := well_any (h7 g1 g2) (s7 g0) W2 T2 t2 (s7_ok x0 x1 x2) (s7_z g0 g1 g2) true ⟨fun _ => s7_well g0, fun _ => rfl⟩
  go_wp2_with (refine wpList_row_g rfl 26 _ rfl _ rfl _ _ _ _ x3 Tryd.underlying26 rfl (by kernel_rfl) ?_)
  refine hw.mono ?_; rintro e0 W3 ⟨rfl, hb⟩
  replace x0 := x0.below hb x0.lt; replace x1 := x1.below hb x1.lt; replace x2 := x2.below hb x2.lt; replace x3 := x3.below hb x3.lt; have b3 := b2.trans (hb.mono b2.size); clear hb b2 hw T2 t2
  have hn := names_any (h7 g1 g2) (s7 g0) W3 (s7_ok x0 x1 x2) (show 1 ≤ 5864062014805 by decide) (show 1 ≤ 4398046511104 by decide)
  go_wp2_with (refine wpList_row_g rfl 26 _ rfl _ rfl _ _ _ _ x3 Tryd.underlying26 rfl (by kernel_rfl) ?_)
  refine hn.mono ?_; rintro e0 W4 ⟨A0, c0, rfl, hown, hb⟩
  have b4 := b3.trans (hb.mono b3.size)
  clear hb b3 hn hown x0 x1 x2 x3
  have hl : (((nmB (s7 g0)).length : Int) == 2) = true := rfl
  go_wp2_with fail
  go_ret
  exact ⟨rfl, b4⟩
end Go.Proofs.YtnoaeejdcdeanaaDoor.Va
