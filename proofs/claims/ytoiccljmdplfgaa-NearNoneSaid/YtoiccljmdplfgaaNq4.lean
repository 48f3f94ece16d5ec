/-
  solsticeref30.Same of places; law 43's lives: walked.
-/
import Derived.Test.YtoiccljmdplfgaaNq3
namespace Go.Proofs.Ytoiccljmdplfgaa.Nr
open Go.ChangeShapes Go.WideShapes Go.ChangeAt Go.RowKit Go.Shelf
open Go.Proofs.Ytoiccljmdplfgaa
open Go.Proofs.Ytoiccljmdplfgaa.Wd
open Go.Proofs.Ytoiccljmdplfgaa.Pl
open Go.Proofs.Ytoiccljmdplfgaa.Nv
open Go.Proofs.Ytoiccljmdplfgaa.Ar
open Go.Proofs.Ytoiccljmdplfgaa.So (ordF ordF_pm ordF_sd ordF_eq sort_any Pm Sd Lt)
open Go.Proofs.Ytoiccljmdplfgaa.Sr (SoR Hd key net key_inj)
open Go.Proofs.Ytoiccljmdplfgaa.Lk (lead zone_any)
set_option linter.unusedVariables false
set_option linter.unusedSimpArgs false
theorem bdrewN {B : Nat} {w w' : World} (h : Below B w w') (q : Nat) : Below B w (w'.drewN q) := ⟨h.os, h.tape, h.output, h.size, h.block⟩
abbrev iz (l : List Int) : List Value := l.map (Value.int .i64)
theorem iz_at {w : World} {Bd : Nat} {A : Option Addr} {n k : Nat} {xs : List Int} (h : Reads w Bd 1 A n (iz xs)) (hk : k < n) :
    ∃ ad, A = some ad ∧ w.cell? (ad.add k) = some (.int .i64 (xs[k]?.getD 0)) := by
  obtain ⟨ad, u, e, _, hx, hc⟩ := h.at_ hk
  refine ⟨ad, e, ?_⟩
  rw [hc]
  simp only [iz, List.getElem?_map] at hx
  cases hg : xs[k]? with
  | none => rw [hg] at hx; cases hx
  | some z => rw [hg] at hx; simp at hx; rw [← hx]; rfl
theorem take_eq_succ {xs ys : List Int} {k : Nat} (h : xs.take k = ys.take k) (hx : k < xs.length) (hy : k < ys.length) (he : xs[k]?.getD 0 = ys[k]?.getD 0) : xs.take (k + 1) = ys.take (k + 1) := by
  rw [List.take_succ_eq_append_getElem hx, List.take_succ_eq_append_getElem hy, h]
  rw [List.getElem?_eq_getElem hx, List.getElem?_eq_getElem hy] at he
  simp at he; rw [he]
theorem ne_of_at {xs ys : List Int} {k : Nat} (he : ¬ xs[k]?.getD 0 = ys[k]?.getD 0) : decide (xs = ys) = false := by
  rw [decide_eq_false_iff_not]; intro e; subst e; exact he rfl
set_option maxHeartbeats 1600000 in
theorem same_any (A D : Option Addr) (n m c d : Nat) (xs ys : List Int) (Ba Bb : Nat) (w : World) (ha : Reads w Ba 1 A n (iz xs)) (hb : Reads w Bb 1 D m (iz ys)) (hn : n ≤ 9223372036854775807) (hm : m ≤ 9223372036854775807) :
    Calls Try.prog 72 #[.slice A n c, .slice D m d] w fun e w' => e = .returned (.bool (decide (xs = ys))) ∧ Below w.heap.size w w' := by
  have lx : xs.length = n := by have := ha.1; simpa [iz] using this
  have ly : ys.length = m := by have := hb.1; simpa [iz] using this
  by_cases hnm : n = m
  · subst hnm
    have LX := Lib.hid lx; have LY := Lib.hid ly; clear lx ly
    go_enter Try.func72, Try.ntmps72
    go_wp2_with fail
    go_loopw [5, 13] (fun _ i w' => ∃ k q : Nat, i = .int .i64 k ∧ k ≤ n ∧ xs.take k = ys.take k ∧ w' = w.drewN q) (fun _ i _ => n - (intOf i).toNat)
    case atStart => exact ⟨0, 0, rfl, Nat.zero_le _, by simp, rfl⟩
    case round =>
      obtain ⟨k, q, rfl, hk, ht, rfl⟩ := hrel
      have HT := Lib.hid ht; clear ht
      by_cases hlt : k < n
      · obtain ⟨ad, rfl, hc1⟩ := iz_at ha hlt
        obtain ⟨bd, rfl, hc2⟩ := iz_at hb hlt
        have h0 : (0 : Int) ≤ (k : Int) := by omega
        have h1 : (k : Int) < (n : Int) := by omega
        clear ha hb
        by_cases he : xs[k]?.getD 0 = ys[k]?.getD 0
        · have HE := Lib.hid he
          have heb : (xs[k]?.getD 0 != ys[k]?.getD 0) = false := by simp [he]
          clear he
          go_wp2_with fail
          go_quiet (fail)
          go_wp2_with fail
          go_roundw
          case rel => exact ⟨k + 1, _, by go_num, by omega, take_eq_succ HT.out (by rw [LX.out]; exact hlt) (by rw [LY.out]; exact hlt) HE.out, rfl⟩
          case measure => simp [intOf]; omega
        · have heb : (xs[k]?.getD 0 != ys[k]?.getD 0) = true := by simp [he]
          have HE := Lib.hid (ne_of_at he)
          clear he
          go_wp2_with fail
          go_quiet (fail)
          go_wp2_with fail
          go_ret
          exact ⟨by rw [HE.out]; rfl, bdrewN (bdrewN (Below.refl _ _) _) _⟩
      · obtain rfl : k = n := by omega
        have h1 : ¬ (k : Int) < (k : Int) := by omega
        go_wp2_with fail
        go_ret
        have e : xs = ys := by
          have := HT.out
          rw [List.take_of_length_le (by rw [LX.out]; omega), List.take_of_length_le (by rw [LY.out]; omega)] at this
          exact this
        exact ⟨by rw [decide_eq_true e]; rfl, bdrewN (Below.refl _ _) _⟩
  · have hne : ((n : Int) != (m : Int)) = true := by simp; omega
    have HE : decide (xs = ys) = false := by rw [decide_eq_false_iff_not]; intro e; subst e; omega
    have HE' := Lib.hid HE; clear HE lx ly
    go_enter Try.func72, Try.ntmps72
    go_wp2_with fail
    go_ret
    exact ⟨by rw [HE'.out]; rfl, Below.refl _ _⟩

theorem reads_row {w : World} {g n : Nat} {t : TypeId} {f : Nat → Value} {xs : List Value} (h : w.rowIs g t n f) (hl : xs.length = n) (hx : ∀ j, j < n → xs[j]? = some (f j)) : Reads w w.heap.size 1 (some ⟨g, 0, none⟩) n xs := by
  refine ⟨by omega, fun _ => ⟨_, rfl, h.lt, fun j u hu => ?_⟩⟩
  have hj : j < n := by
    rcases Nat.lt_or_ge j n with q | q
    · exact q
    · rw [List.getElem?_eq_none (by omega)] at hu; cases hu
  rw [show (⟨g, 0, none⟩ : Addr).add j = ⟨g, j, none⟩ by unfold Addr.add; split <;> simp_all, h.cell hj, ← hu, hx j hj]
theorem reads_blk {w : World} {g n : Nat} {t : TypeId} {cs : Array Value} {xs : List Value} (h : Blk w g t cs) (hl : xs.length = n) (hx : cs.toList = xs) : Reads w w.heap.size 1 (some ⟨g, 0, none⟩) n xs := by
  refine ⟨by omega, fun _ => ⟨_, rfl, h.lt, fun j u hu => ?_⟩⟩
  rw [show (⟨g, 0, none⟩ : Addr).add j = ⟨g, j, none⟩ by unfold Addr.add; split <;> simp_all, h.cell, ← hu, ← hx, Array.getElem?_toList]
abbrev l43 : List Pc := [⟨⟨#[65]⟩, ⟨0, 647000⟩, ⟨#[120]⟩⟩, ⟨⟨#[66]⟩, ⟨0, -647000⟩, ⟨#[121]⟩⟩, ⟨⟨#[66]⟩, ⟨0, 10⟩, ⟨#[122]⟩⟩]
abbrev p43 : P2 := ⟨0, -648000⟩
theorem l43_p : ∀ a ∈ l43, a.t.size ≤ maxLen ∧ a.z.size ≤ maxLen := by
  intro a ha
  simp only [List.mem_cons, List.not_mem_nil, or_false] at ha
  rcases ha with rfl | rfl | rfl <;> exact ⟨(show 1 ≤ maxLen by decide), (show 1 ≤ maxLen by decide)⟩
theorem f0 : far_ l43 p43 0 = 1000000 := by kernel_rfl
theorem f1 : far_ l43 p43 1 = 1000000 := by kernel_rfl
theorem f2 : far_ l43 p43 2 = 419891040100 := by kernel_rfl
theorem sd43 : Sd (far_ l43 p43) 0 3 id := by
  intro i j _ ij j3
  have h0 := f0; have h1 := f1; have h2 := f2
  rcases (show (i = 0 ∧ j = 1) ∨ (i = 0 ∧ j = 2) ∨ (i = 1 ∧ j = 2) by omega) with ⟨rfl, rfl⟩ | ⟨rfl, rfl⟩ | ⟨rfl, rfl⟩ <;> (show Lt (far_ l43 p43) _ _; unfold Lt) <;> (simp only [id]; omega)
theorem ord43 : ∀ j, j < 3 → ordF (far_ l43 p43) 3 j = j := fun j hj => (ordF_eq (Pm.refl 0 3 id) sd43 j hj).symm
theorem nc43 : ncE l43 p43 = 0 := by kernel_rfl
theorem o43 {W : World} {g : Nat} {t : TypeId} (x : Blk W g t #[.string ⟨#[65]⟩, .int .i64 0, .int .i64 647000, .string ⟨#[120]⟩, .string ⟨#[66]⟩, .int .i64 0, .int .i64 (-647000), .string ⟨#[121]⟩, .string ⟨#[66]⟩, .int .i64 0, .int .i64 10, .string ⟨#[122]⟩]) : Calls Try.prog 43 #[.slice (some ⟨g, 0, none⟩) 3 3, p43.V] W fun e w' => ∃ g, e = .returned (.tuple #[.slice (some ⟨g, 0, none⟩) 3 3, .int .i64 0]) ∧ Below W.heap.size W w' ∧ w'.rowIs g 3 3 (fun j => .int .i64 (j : Int)) :=
  (order_ok (some ⟨g, 0, none⟩) 3 3 l43 p43 W (pcs_of (L := l43) x rfl l43_p) (by decide) nc43 _ (sort_any _ 3 (by decide))).mono fun e w' ⟨g, h1, h2, h3⟩ => ⟨g, h1, h2, h3.congr fun j hj => by rw [ord43 j hj]⟩
theorem n43 {W : World} {g : Nat} {t : TypeId} (x : Blk W g t #[.string ⟨#[65]⟩, .int .i64 0, .int .i64 647000, .string ⟨#[120]⟩, .string ⟨#[66]⟩, .int .i64 0, .int .i64 (-647000), .string ⟨#[121]⟩, .string ⟨#[66]⟩, .int .i64 0, .int .i64 10, .string ⟨#[122]⟩]) : Calls Try.prog 47 #[.slice (some ⟨g, 0, none⟩) 3 3, p43.V] W fun e w' => e = .returned (.tuple #[.int .i64 0, .int .i64 0]) ∧ Below W.heap.size W w' := by
  have := near_ok (some ⟨g, 0, none⟩) 3 3 l43 p43 W (pcs_of (L := l43) x rfl l43_p) (by decide) nc43 _ (sort_any _ 3 (by decide))
  rw [ord43 0 (by decide)] at this
  exact this
theorem n43n (W : World) : Calls Try.prog 47 #[.slice none 0 0, p43.V] W fun e w' => e = .returned (.tuple #[.int .i64 0, .int .i64 3]) ∧ Below W.heap.size W w' :=
  near_ok none 0 0 [] p43 W ⟨rfl, Reads.none_, fun a ha => absurd ha List.not_mem_nil⟩ (by decide) (by kernel_rfl) _ (sort_any _ 0 (by decide))
theorem w43 {W : World} {g : Nat} {t : TypeId} (x : Blk W g t #[.string ⟨#[65]⟩, .int .i64 0, .int .i64 647000, .string ⟨#[120]⟩, .string ⟨#[66]⟩, .int .i64 0, .int .i64 (-647000), .string ⟨#[121]⟩, .string ⟨#[66]⟩, .int .i64 0, .int .i64 10, .string ⟨#[122]⟩]) : Calls Try.prog 44 #[.slice (some ⟨g, 0, none⟩) 3 3, p43.V, .int .i64 1000000] W fun e w' => ∃ v, e = .returned (.tuple #[v, .int .i64 0]) ∧ Below W.heap.size W w' ∧ w'.ownsRow W.heap.size 3 1 v 2 [.int .i64 0, .int .i64 1] := by
  have := within_ok (some ⟨g, 0, none⟩) 3 3 l43 p43 1000000 W (pcs_of (L := l43) x rfl l43_p) (by decide) nc43
  rw [show WiP l43 p43 1000000 3 W = fun e w' => ∃ v, e = .returned (.tuple #[v, .int .i64 0]) ∧ Below W.heap.size W w' ∧ w'.ownsRow W.heap.size 3 1 v (wiL l43 p43 1000000 3).length (inV (wiL l43 p43 1000000 3)) from rfl, show wiL l43 p43 1000000 3 = [0, 1] by unfold wiL wiL wiL wiL; rw [f0, f1, f2]; rfl] at this
  exact this
theorem o43e {W : World} {g : Nat} {t : TypeId} (x : Blk W g t #[.string ByteArray.empty, .int .i64 0, .int .i64 0, .string ByteArray.empty]) : Calls Try.prog 43 #[.slice (some ⟨g, 0, none⟩) 1 1, p43.V] W fun e w' => e = .returned (.tuple #[.slice none 0 0, .int .i64 2]) ∧ Below W.heap.size W w' := by
  have := order_no (some ⟨g, 0, none⟩) 1 1 [Pc.nil] p43 W (pcs_of (L := [Pc.nil]) x rfl (fun a ha => by obtain rfl := List.mem_singleton.1 ha; exact ⟨(show 0 ≤ maxLen by decide), (show 0 ≤ maxLen by decide)⟩)) (by decide) (by decide)
  rw [show ncE [Pc.nil] p43 = 2 by kernel_rfl] at this
  exact this
theorem o43f {W : World} {g : Nat} {t : TypeId} (x : Blk W g t #[.string ⟨#[65]⟩, .int .i64 0, .int .i64 647000, .string ⟨#[120]⟩, .string ⟨#[66]⟩, .int .i64 0, .int .i64 (-647000), .string ⟨#[121]⟩, .string ⟨#[66]⟩, .int .i64 0, .int .i64 10, .string ⟨#[122]⟩]) : Calls Try.prog 43 #[.slice (some ⟨g, 0, none⟩) 3 3, .agg #[.int .i64 1073741824, .int .i64 0]] W fun e w' => e = .returned (.tuple #[.slice none 0 0, .int .i64 2]) ∧ Below W.heap.size W w' := by
  have := order_no (some ⟨g, 0, none⟩) 3 3 l43 ⟨1073741824, 0⟩ W (pcs_of (L := l43) x rfl l43_p) (by decide) (by rw [show ncE l43 ⟨1073741824, 0⟩ = 2 by kernel_rfl]; decide)
  rw [show ncE l43 ⟨1073741824, 0⟩ = 2 by kernel_rfl] at this
  exact this
abbrev S43 : Sr.So := ⟨[], [⟨⟨#[122]⟩, none, 0, 0, []⟩], [⟨⟨#[122]⟩, ⟨#[121]⟩⟩]⟩
abbrev Q43 (g1 g2 : Nat) : Hd := ⟨none, 0, 0, some ⟨g1, 0, none⟩, 1, 1, some ⟨g2, 0, none⟩, 1, 1⟩
theorem s43_ok {W : World} {g1 g2 : Nat} (x1 : Blk W g1 118 #[.string ⟨#[122]⟩, .slice none 0 0]) (x2 : Blk W g2 120 #[.string ⟨#[122]⟩, .string ⟨#[121]⟩]) : SoR W W.heap.size (Q43 g1 g2) S43 where
  r := Sl.Sls.none_
  z := Sl.Sls.of_blk (f := Sr.Zn.C) (sz := 2) (L := S43.zs) (fun _ => rfl) x1 rfl
  l := Sl.Sls.of_blk (f := Sr.Li.C) (sz := 2) (L := S43.ls) (fun _ => rfl) x2 rfl
  rb := fun a ha => absurd ha List.not_mem_nil
  zb := fun a ha => by
    obtain rfl := List.mem_singleton.1 ha
    exact ⟨by unfold maxLen; decide, Sl.Sls.none_, fun e he => absurd he List.not_mem_nil, Nat.zero_le _, Nat.le_refl _⟩
  lb := fun a ha => by
    obtain rfl := List.mem_singleton.1 ha
    exact ⟨by unfold maxLen; decide, by unfold maxLen; decide⟩
  rm := ⟨Nat.zero_le _, Nat.le_refl _⟩
  zm := ⟨show 1 ≤ maxLen by unfold maxLen; decide, Nat.le_refl _⟩
  lm := ⟨show 1 ≤ maxLen by unfold maxLen; decide, Nat.le_refl _⟩
abbrev H0 : Hd := ⟨none, 0, 0, none, 0, 0, none, 0, 0⟩
theorem s0_ok (W : World) : SoR W W.heap.size H0 ⟨[], [], []⟩ where
  r := Sl.Sls.none_
  z := Sl.Sls.none_
  l := Sl.Sls.none_
  rb := fun a ha => absurd ha List.not_mem_nil
  zb := fun a ha => absurd ha List.not_mem_nil
  lb := fun a ha => absurd ha List.not_mem_nil
  rm := ⟨Nat.zero_le _, Nat.le_refl _⟩
  zm := ⟨Nat.zero_le _, Nat.le_refl _⟩
  lm := ⟨Nat.zero_le _, Nat.le_refl _⟩
theorem ldx : ¬ okZ S43 [120] := by unfold okZ; rw [Lk.lead_of (net S43) (k := 3) (n := [120]) (f := ⟨0, 3⟩) (by decide)]; decide
theorem ldy : okZ S43 [121] := by unfold okZ; rw [Lk.lead_of (net S43) (k := 3) (n := [121]) (f := ⟨0, 0⟩) (by decide)]
theorem ld0 (b : Sr.Key) : ¬ okZ ⟨[], [], []⟩ b := by
  unfold okZ; rw [Lk.lead_none (net ⟨[], [], []⟩) (n := b) rfl (Lk.nxt_none _ rfl)]; decide
theorem z43 {W : World} {g g1 g2 : Nat} {t : TypeId} (x : Blk W g t #[.string ⟨#[65]⟩, .int .i64 0, .int .i64 647000, .string ⟨#[120]⟩, .string ⟨#[66]⟩, .int .i64 0, .int .i64 (-647000), .string ⟨#[121]⟩, .string ⟨#[66]⟩, .int .i64 0, .int .i64 10, .string ⟨#[122]⟩]) (x1 : Blk W g1 118 #[.string ⟨#[122]⟩, .slice none 0 0]) (x2 : Blk W g2 120 #[.string ⟨#[122]⟩, .string ⟨#[121]⟩]) : Calls Try.prog 45 #[.slice (some ⟨g, 0, none⟩) 3 3, (Q43 g1 g2).V, p43.V] W fun e w' => e = .returned (.tuple #[.string ⟨#[121]⟩, .int .i64 0]) ∧ Below W.heap.size W w' :=
  (nzone_ok (some ⟨g, 0, none⟩) 3 3 l43 p43 (Q43 g1 g2) S43 W (pcs_of (L := l43) x rfl l43_p) (s43_ok x1 x2) (by decide) nc43 (by decide) (show 1 ≤ 100000 by decide) (show 1 ≤ 100000 by decide)).mono fun e w' ⟨b, E, h1, h2, h3⟩ => by
    have hx : ¬ okZ S43 (key (pc_ l43 (ordF (far_ l43 p43) 3 0)).z) := by rw [ord43 0 (by decide)]; exact ldx
    have hy : okZ S43 (key (pc_ l43 (ordF (far_ l43 p43) 3 1)).z) := by rw [ord43 1 (by decide)]; exact ldy
    rcases h3 with ⟨j, q1, q2, q3, q4, q5⟩ | ⟨q1, _⟩
    · rcases (show j = 0 ∨ j = 1 ∨ j = 2 by omega) with rfl | rfl | rfl
      · rw [q2] at q3; exact absurd q3 hx
      · subst q5; rw [q2, ord43 1 (by decide)] at h1; exact ⟨h1, h2⟩
      · exact absurd hy (q4 1 (by decide))
    · exact absurd hy (q1 1 (by decide))
theorem z43e {W : World} {g : Nat} {t : TypeId} (x : Blk W g t #[.string ⟨#[65]⟩, .int .i64 0, .int .i64 647000, .string ⟨#[120]⟩, .string ⟨#[66]⟩, .int .i64 0, .int .i64 (-647000), .string ⟨#[121]⟩, .string ⟨#[66]⟩, .int .i64 0, .int .i64 10, .string ⟨#[122]⟩]) : Calls Try.prog 45 #[.slice (some ⟨g, 0, none⟩) 3 3, H0.V, p43.V] W fun e w' => e = .returned (.tuple #[.string ByteArray.empty, .int .i64 3]) ∧ Below W.heap.size W w' :=
  (nzone_ok (some ⟨g, 0, none⟩) 3 3 l43 p43 H0 ⟨[], [], []⟩ W (pcs_of (L := l43) x rfl l43_p) (s0_ok W) (by decide) nc43 (by decide) (show 0 ≤ 100000 by decide) (show 0 ≤ 100000 by decide)).mono fun e w' ⟨b, E, h1, h2, h3⟩ => by
    rcases h3 with ⟨j, q1, q2, q3, q4, q5⟩ | ⟨_, q2, q3⟩
    · exact absurd q3 (ld0 _)
    · subst q2 q3; exact ⟨h1, h2⟩
end Go.Proofs.Ytoiccljmdplfgaa.Nr
