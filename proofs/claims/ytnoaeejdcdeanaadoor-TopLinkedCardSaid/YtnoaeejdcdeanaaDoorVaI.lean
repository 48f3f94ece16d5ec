/-
  ALL FLAWS OF A SOURCE; WHETHER IT HAS NONE: walked.
-/
import Derived.Test.YtnoaeejdcdeanaaDoorVaH
namespace Go.Proofs.YtnoaeejdcdeanaaDoor.Va
open Go.ChangeShapes Go.WideShapes Go.ChangeAt Go.RowKit Go.Shelf
open Go.Proofs.YtnoaeejdcdeanaaDoor
open Go.Proofs.YtnoaeejdcdeanaaDoor.Wd
open Go.Proofs.YtnoaeejdcdeanaaDoor.Sr
open Go.Proofs.YtnoaeejdcdeanaaDoor.Sl
set_option linter.unusedVariables false
set_option linter.unusedSimpArgs false
open Go.Proofs.YtnoaeejdcdeanaaDoor.Civ (Tab)
open Go.Proofs.YtnoaeejdcdeanaaDoor.Ab (Tb)
open Go.Proofs.YtnoaeejdcdeanaaDoor.Lk (own_slice nmB)
/-- the flaws of a source are answered -/
def FlP (S : So) (w : World) (e0 : Ending) (w' : World) : Prop := ∃ (A0 : Option Addr) (c : Nat), e0 = .returned (.slice A0 (flaws S).length c) ∧ Sls Fl.C 2 w' w'.heap.size A0 (flaws S).length (flaws S) ∧ Below w.heap.size w w'
theorem miF_len {S : So} {h : Hd} {w : World} {B : Nat} (hS : SoR w B h S) (hZ : SoZ h S) : (miF S).length ≤ 144 := by
  have := flat_le (f := miZ (rnames S)) (c := 12) S.zs (fun a ha => miZ_len _ a (by have h1 := hZ.z _ ha; have h2 := (hS.zb _ ha).2.1.len; have := h1.1; omega))
  have h3 := hS.z.len; have h4 := hZ.zn
  unfold miF; omega
theorem diF_len {S : So} {h : Hd} {w : World} {B : Nat} (hS : SoR w B h S) (hZ : SoZ h S) : (diF S).length ≤ 144 := by
  have := flat_le (f := diZ) (c := 12) S.zs (fun a ha => by have h0 := diK_len a a.es.length (Nat.le_refl _); have h1 := hZ.z _ ha; have h2 := (hS.zb _ ha).2.1.len; have := h1.1; show (diK a a.es.length).1.length ≤ 12; omega)
  have h3 := hS.z.len; have h4 := hZ.zn
  unfold diF; omega
set_option maxRecDepth 100000 in
set_option maxHeartbeats 6400000 in
theorem flaws_any (h : Hd) (S : So) (w : World) (hT : Tab w) (hS : SoR w w.heap.size h S) (hZ : SoZ h S) : Calls Tryd.prog 9 #[h.V] w (FlP S w) := by
  have q1 := hZ.rn; have q2 := hZ.zn; have q3 := hZ.ln
  have l1 := miF_len hS hZ; have l2 := diF_len hS hZ
  have l0 : (twK (nmB S) (nmB S).length).length ≤ 100 := by have := twK_len (nmB S) (nmB S).length; have := Lk.nmB_len S; have := hS.z.len; have := hS.l.len; omega
  obtain ⟨rA, rn, rc, zA, zn, zc, lA, ln, lc⟩ := h
  dsimp only at q1 q2 q3
  have hbase := hT.1
  have x0 := Blk.new w 26 #[.slice rA rn rc, .slice zA zn zc, .slice lA ln lc]
  have b0 := bal (Below.refl _ w) (.cells #[.slice rA rn rc, .slice zA zn zc, .slice lA ln lc] 26)
  have b1 := bal b0 (.cells #[.slice rA rn rc, .slice zA zn zc, .slice lA ln lc, .slice none 0 0] 64)
  have F0 : Fz w.heap.size ((w.alloc (.cells #[.slice rA rn rc, .slice zA zn zc, .slice lA ln lc] 26)).alloc (.cells #[.slice rA rn rc, .slice zA zn zc, .slice lA ln lc, .slice none 0 0] 64)) (w.heap.size + 1) ⟨rA, rn, rc, zA, zn, zc, lA, ln, lc⟩ [] (.slice none 0 0) := ⟨by have := blk_at (w.alloc (.cells #[.slice rA rn rc, .slice zA zn zc, .slice lA ln lc] 26)) 64 #[.slice rA rn rc, .slice zA zn zc, .slice lA ln lc, .slice none 0 0] (sz1 w (.cells #[.slice rA rn rc, .slice zA zn zc, .slice lA ln lc] 26) rfl); exact this, World.ownsRow_nil _ _ _ _, Nat.le_succ _⟩
  go_enter Tryd.func9, Tryd.ntmps9
  go_upto_region 2 with (first | (refine wpList_row_g rfl 26 _ rfl _ rfl _ _ _ _ x0 Tryd.underlying26 rfl (by kernel_rfl) ?_) | (refine wpList_store_new rfl 64 _ _ rfl rfl (w.heap.size + 1) #[.slice rA rn rc, .slice zA zn zc, .slice lA ln lc, .slice none 0 0] rfl rfl _ #[.slice none 0 0, .slice none 0 0, .slice none 0 0, .slice none 0 0] (w.alloc (.cells #[.slice rA rn rc, .slice zA zn zc, .slice lA ln lc] 26)) rfl (sz1 _ _ rfl).symm rfl (by kernel_rfl) (by kernel_rfl) ?_))
  generalize (w.alloc (.cells #[.slice rA rn rc, .slice zA zn zc, .slice lA ln lc] 26)).alloc (.cells #[.slice rA rn rc, .slice zA zn zc, .slice lA ln lc, .slice none 0 0] 64) = W at *
  clear x0 b0
  obtain ⟨p, hp⟩ : ∃ p, w.heap.size + 1 = p := ⟨_, rfl⟩
  rw [hp] at F0 ⊢
  clear hp
  go_wp2_with fail
  refine (twice_any w.heap.size p _ S _ _ W F0 (hS.below b1) (by show zn ≤ 100; omega) (by show ln ≤ 100; omega) (by simp)).mono ?_; rintro e0 W1 ⟨rfl, v1, F1, hb⟩
  rw [List.nil_append] at F1
  have b2 := b1.trans hb; clear hb F0 b1
  go_wp2_with fail
  refine (missing_any w.heap.size p _ S _ _ W1 F1 (hS.below b2) (by show zn ≤ 12; omega) (by show rn ≤ 100; omega) hZ.z (by omega)).mono ?_; rintro e0 W2 ⟨rfl, v2, F2, hb⟩
  have b3 := b2.trans hb; clear hb F1 b2
  go_wp2_with fail
  refine (disorder_any w.heap.size p _ S _ _ W2 F2 (hT.below hbase b3) hbase (hS.below b3) (by show zn ≤ 12; omega) hZ.z (by rw [List.length_append]; omega)).mono ?_; rintro e0 W3 ⟨rfl, v3, F3, hb⟩
  have b4 := b3.trans hb; clear hb F2 b3
  go_wp2_with fail
  refine (astray_any w.heap.size p _ S _ _ W3 F3 (hS.below b4) (by show zn ≤ 12; omega) (by show ln ≤ 30; omega) (by rw [List.length_append, List.length_append]; omega)).mono ?_; rintro e0 W4 ⟨rfl, v4, F4, hb⟩
  have b5 := b4.trans hb; clear hb F3 b4
  have HE := Lib.hid (show flaws S = twK (nmB S) (nmB S).length ++ miF S ++ diF S ++ asF S from rfl)
  rw [← HE.out] at F4
  obtain ⟨A0, c0, rfl⟩ := own_slice F4.o
  have c3 : W4.cell? ⟨p, 3, none⟩ = some (.slice A0 (flaws S).length c0) := F4.f.cell 3
  have HS := Lib.hid (Sls.of_own rfl F4.o)
  obtain ⟨fl, hfl⟩ : ∃ fl, flaws S = fl := ⟨_, rfl⟩
  rw [hfl] at c3 HS
  have HFl := Lib.hid hfl; clear hfl HE
  clear l0 l1 l2 F4
  go_wp2_with fail
  go_ret
  exact ⟨A0, c0, by rw [HFl.out]; rfl, by rw [HFl.out]; exact HS.out, b5⟩
/-- a source is right, and has no flaws -/
def WellP (S : So) : Prop := SoOk S ∧ flaws S = []
set_option maxRecDepth 100000 in
set_option maxHeartbeats 6400000 in
theorem well_any (h : Hd) (S : So) (w : World) (hT : Tab w) (hTb : Tb w) (hS : SoR w w.heap.size h S) (hZ : SoZ h S) (c : Bool) (hc : c = true ↔ WellP S) : Calls Tryd.prog 7 #[h.V] w fun e0 w' => e0 = .returned (.bool c) ∧ Below w.heap.size w w' := by
  have x0 := Blk.new w 26 h.C
  have b0 := bal (Below.refl _ w) (.cells h.C 26)
  have t0 : Tb (w.alloc (.cells h.C 26)) := hTb.bel ((Below.refl _ w).alloc (Nat.le_refl _) _)
  have T0 : Tab (w.alloc (.cells h.C 26)) := hT.below hT.1 b0
  have HC := Lib.hid hc; clear hc
  have HZ := Lib.hid hZ
  have S0 := (hS.below b0).more b0.size
  have hbase := hT.1
  go_enter Tryd.func7, Tryd.ntmps7
  go_upto_region 1 with fail
  generalize w.alloc (.cells h.C 26) = W at *
  have hk := src_any h S W t0 S0 HZ.out
  clear hZ
  obtain ⟨g, hg⟩ : ∃ g, w.heap.size = g := ⟨_, rfl⟩
  have xg : Blk W g 26 h.C := by rw [← hg]; exact x0
  rw [hg]
  have Hg := Lib.hid hg; clear hg x0
  rcases soE_02 S with h1 | h1
  · rw [h1] at hk
    have H1 := Lib.hid (soE_0.1 h1); clear h1
    go_wp2_with (refine wpList_row_g rfl 26 _ rfl _ rfl _ _ _ _ xg Tryd.underlying26 rfl (by kernel_rfl) ?_)
    refine hk.mono ?_; rintro e0 W1 ⟨rfl, hb⟩
    have x1 := xg.below hb xg.lt; have b1 := b0.trans (hb.mono b0.size); have T1 := T0.below T0.1 hb; have S1 := (S0.below hb).more hb.size
    clear hk hb xg b0 T0 S0 t0
    have hf := flaws_any h S W1 T1 S1 HZ.out
    go_wp2_with (refine wpList_row_g rfl 26 _ rfl _ rfl _ _ _ _ x1 Tryd.underlying26 rfl (by kernel_rfl) ?_)
    refine hf.mono ?_; rintro e0 W2 ⟨A0, c0, rfl, hsl, hb⟩
    have b2 := b1.trans (hb.mono b1.size)
    clear hf hb x1 b1 T1 S1 hsl
    by_cases hn : flaws S = []
    · obtain rfl : c = true := HC.out.2 ⟨H1.out, hn⟩
      have hlb : (((flaws S).length : Int) == 0) = true := by rw [hn]; rfl
      clear hn
      go_wp2_with fail
      go_ret
      exact ⟨rfl, b2⟩
    · obtain rfl : c = false := by cases hq : c; rfl; exact absurd (HC.out.1 hq).2 hn
      have hlb : (((flaws S).length : Int) == 0) = false := by
        rw [beq_eq_false_iff_ne]; intro e; exact hn (List.eq_nil_of_length_eq_zero (by omega))
      have hlz : ¬ flaws S = [] := hn
      clear hn
      go_wp2_with fail
      go_ret
      exact ⟨rfl, b2⟩
  · rw [h1] at hk
    obtain rfl : c = false := by cases hq : c; rfl; exact absurd (soE_0.2 (HC.out.1 hq).1) (by rw [h1]; decide)
    clear h1
    go_wp2_with (refine wpList_row_g rfl 26 _ rfl _ rfl _ _ _ _ xg Tryd.underlying26 rfl (by kernel_rfl) ?_)
    refine hk.mono ?_; rintro e0 W1 ⟨rfl, hb⟩
    have b1 := b0.trans (hb.mono b0.size)
    clear hk hb
    go_wp2_with fail
    go_ret
    exact ⟨rfl, b1⟩
end Go.Proofs.YtnoaeejdcdeanaaDoor.Va
