/-
  THE STABLE SORT OF PLACES: at most sixty: walked.
-/
import Derived.Test.YtoiccljmdplfgaaSo5
import Derived.Test.YtoiccljmdplfgaaSoN
namespace Go.Proofs.Ytoiccljmdplfgaa.So
open Go.ChangeShapes Go.WideShapes Go.ChangeAt Go.RowKit
open Go.Proofs.Ytoiccljmdplfgaa
open Go.Proofs.Ytoiccljmdplfgaa.Wd
open Go.Proofs.Ytoiccljmdplfgaa.Nr (Only cmpF)
set_option linter.unusedVariables false
set_option linter.unusedSimpArgs false
set_option maxRecDepth 100000 in
theorem sym_any (gO gT gF n : Nat) (far : Nat → Int) (h1 : gO ≠ gT) (h2 : gO ≠ gF) (hn : n ≤ 4096) : ∀ (N lo m hi : Nat) (a : Fn_) (W : World), hi - lo < N → En gO gT gF n far a W → Mrg far lo m hi a → lo < m → m < hi → hi ≤ n →
    Calls Try.prog 102 #[.slice (some ⟨gO, 0, none⟩) n n, .int .i64 (lo : Int), .int .i64 (m : Int), .int .i64 (hi : Int), cmpF gT] W (SoP gO gT gF n far lo hi a W)
  | 0, lo, m, hi, a, W, hN, _, _, _, _, _ => absurd hN (Nat.not_lt_zero _)
  | N + 1, lo, m, hi, a, W, hN, h, hM, hlm, hmh, hhi => by
    by_cases c1 : m = lo + 1
    · subst c1
      exact sym_l gO gT gF n far lo hi a W h h1 h2 hn hM hhi hmh
    · by_cases c2 : hi = m + 1
      · subst c2
        exact sym_r gO gT gF n far lo m a W h h1 h2 hn hM hhi (by omega)
      · by_cases c3 : (lo + hi) / 2 < m
        · exact sym_hi gO gT gF n far lo m hi _ a W h h1 h2 hn hM hhi (by omega) (by omega) rfl c3 (fun lo' m' hi' a' W' hl h' hM' l1 l2 l3 => sym_any gO gT gF n far h1 h2 hn N lo' m' hi' a' W' (by omega) h' hM' l1 l2 l3)
        · exact sym_lo gO gT gF n far lo m hi _ a W h h1 h2 hn hM hhi (by omega) (by omega) rfl c3 (fun lo' m' hi' a' W' hl h' hM' l1 l2 l3 => sym_any gO gT gF n far h1 h2 hn N lo' m' hi' a' W' (by omega) h' hM' l1 l2 l3)
theorem sym_at (gO gT gF n : Nat) (far : Nat → Int) (L M H : Int) (lo m hi : Nat) (eL : L = (lo : Int)) (eM : M = (m : Int)) (eH : H = (hi : Int)) (a : Fn_) (W : World) (h : En gO gT gF n far a W) (h1 : gO ≠ gT) (h2 : gO ≠ gF) (hn : n ≤ 4096) (hM : Mrg far lo m hi a) (hlm : lo < m) (hmh : m < hi) (hhi : hi ≤ n) :
    Calls Try.prog 102 #[.slice (some ⟨gO, 0, none⟩) n n, .int .i64 L, .int .i64 M, .int .i64 H, cmpF gT] W (SoP gO gT gF n far lo hi a W) := by
  subst eL eM eH
  exact sym_any gO gT gF n far h1 h2 hn (hi - lo + 1) lo m hi a W (by omega) h hM hlm hmh hhi
theorem insert_at (gO gT gF n : Nat) (far : Nat → Int) (L H : Int) (lo hi : Nat) (eL : L = (lo : Int)) (eH : H = (hi : Int)) (a : Fn_) (W : World) (h : En gO gT gF n far a W) (h1 : gO ≠ gT) (h2 : gO ≠ gF) (hn : n ≤ 4096) (hlo : lo ≤ hi) (hhi : hi ≤ n) (hup : Up lo hi a) :
    Calls Try.prog 101 #[.slice (some ⟨gO, 0, none⟩) n n, .int .i64 L, .int .i64 H, cmpF gT] W (SoP gO gT gF n far lo hi a W) := by
  subst eL eH
  exact insert_any gO gT gF n far lo hi a W h h1 h2 hn hlo hhi hup
set_option maxRecDepth 1000000 in
set_option maxHeartbeats 12800000 in
theorem stable_any (gO gT gF n : Nat) (far : Nat → Int) (W : World) (h : En gO gT gF n far id W) (h1 : gO ≠ gT) (h2 : gO ≠ gF) (hn : n ≤ 60) :
    Calls Try.prog 92 #[.slice (some ⟨gO, 0, none⟩) n n, .int .i64 (n : Int), cmpF gT] W (SoP gO gT gF n far 0 n id W) := by
  go_enter Try.func92, Try.ntmps92
  go_wp2_with fail
  go_loopw [7, 8] (fun v u wq => ∃ (e : Nat) (f : Fn_), v = .int .i64 e ∧ u = .int .i64 ((e : Int) + 20) ∧ e % 20 = 0 ∧ e ≤ n ∧ P1 far n e f ∧ En gO gT gF n far f wq ∧ Only gO W wq) (fun _ u _ => n + 20 - (intOf u).toNat)
  case atStart => exact ⟨0, id, rfl, by first | rfl | go_num, by omega, Nat.zero_le _, P1.start _ _, h, Only.refl _ _⟩
  case round =>
    clear h
    obtain ⟨e, g, rfl, rfl, he, hen, hQ, hE, hO⟩ := hrel
    have HQ := Lib.hid hQ; clear hQ
    by_cases hlt2 : e + 20 ≤ n
    · have hl2 : (e : Int) + 20 ≤ (n : Int) := by omega
      go_wp2_with fail
      refine (insert_at gO gT gF n far _ _ e (e + 20) rfl (by omega) g _ hE h1 h2 (by omega) (by omega) hlt2 (HQ.out.up hlt2)).mono ?_; rintro x w5 ⟨rfl, g', hE5, hO5, hP5, hS5⟩
      have HQ5 := Lib.hid (HQ.out.step he (by omega) (Nat.le_refl _) hlt2 hP5 hS5)
      have hO6 := hO.trans hO5
      clear hE hO hO5 hP5 hS5
      go_wp2_with fail
      go_roundw
      case rel => exact ⟨e + 20, g', by go_num, by go_num, by omega, hlt2, HQ5.out, hE5, hO6⟩
      case measure => simp [intOf]; omega
    · have hl2 : ¬ (e : Int) + 20 ≤ (n : Int) := by omega
      obtain ⟨w7, rfl⟩ : ∃ w7 : World, w7 = wr := ⟨_, rfl⟩
      go_wp2_with fail
      refine (insert_at gO gT gF n far _ _ e n rfl rfl g _ hE h1 h2 (by omega) hen (Nat.le_refl _) (HQ.out.up (Nat.le_refl _))).mono ?_; rintro x w5 ⟨rfl, g', hE5, hO5, hP5, hS5⟩
      have HQ5 := Lib.hid (HQ.out.step he hen (by omega) (Nat.le_refl _) hP5 hS5).done
      have hO6 := hO.trans hO5
      clear hE hO hO5 hP5 hS5
      go_wp2_with fail
      go_loopw [6] (fun v wq => ∃ (s : Int) (f : Fn_), v = .int .i64 s ∧ ((s = 20 ∧ Qb far n 20 40 0 f) ∨ (s = 40 ∧ Qb far n 40 80 0 f) ∨ (s = 80 ∧ Sd far 0 n f ∧ Pm 0 n id f)) ∧ En gO gT gF n far f wq ∧ Only gO W wq) (fun v _ => 100 - (intOf v).toNat)
      case atStart => exact ⟨20, g', rfl, .inl ⟨rfl, HQ5.out⟩, hE5, hO6⟩
      case round =>
        clear hE5 hO6 HQ HQ5
        obtain ⟨s, f, rfl, hs, hE, hO⟩ := hrel
        obtain ⟨w8, rfl⟩ : ∃ w8 : World, w8 = wr := ⟨_, rfl⟩
        by_cases hsn : s < (n : Int)
        · rcases hs with ⟨rfl, hq⟩ | ⟨rfl, hq⟩ | ⟨rfl, hq⟩
          · have HQ := Lib.hid hq; clear hq
            have hsn' : (20 : Int) < (n : Int) := by omega
            go_wp2_with fail
            go_loopw [7, 8] (fun v u wq => ∃ (e : Nat) (f : Fn_), v = .int .i64 e ∧ u = .int .i64 ((e : Int) + 40) ∧ e % 40 = 0 ∧ e ≤ n ∧ Qb far n 20 40 e f ∧ En gO gT gF n far f wq ∧ Only gO W wq) (fun _ u _ => n + 40 - (intOf u).toNat)
            case atStart => exact ⟨0, f, rfl, by first | rfl | go_num, by omega, Nat.zero_le _, HQ.out, hE, hO⟩
            case round =>
              clear hE hO HQ
              obtain ⟨e, g, rfl, rfl, he, hen, hQ, hE, hO⟩ := hrel
              have HQ := Lib.hid hQ; clear hQ
              by_cases hlt2 : e + 40 ≤ n
              · have hl2 : (e : Int) + 40 ≤ (n : Int) := by omega
                go_wp2_with fail
                refine (sym_at gO gT gF n far _ _ _ e (e + 20) (e + 40) rfl (by omega) (by omega) g _ hE h1 h2 (by omega) (HQ.out.mrg (.inl ⟨rfl, rfl⟩) he (by omega) (Nat.le_refl _) hlt2) (by omega) (by omega) hlt2).mono ?_; rintro x w5 ⟨rfl, g', hE5, hO5, hP5, hS5⟩
                have HQ5 := Lib.hid (HQ.out.step (.inl ⟨rfl, rfl⟩) he (show e + 20 < e + 40 by omega) (Nat.le_refl _) (.inl rfl) hlt2 hP5 hS5)
                have hO6 := hO.trans hO5
                clear hE hO hO5 hP5 hS5
                go_wp2_with fail
                go_roundw
                case rel => exact ⟨e + 40, g', by go_num, by go_num, by omega, hlt2, HQ5.out, hE5, hO6⟩
                case measure => simp [intOf]; omega
              · have hl2 : ¬ (e : Int) + 40 ≤ (n : Int) := by omega
                obtain ⟨w7, rfl⟩ : ∃ w7 : World, w7 = wr := ⟨_, rfl⟩
                by_cases hlt3 : e + 20 < n
                · have hl3 : (e : Int) + 20 < (n : Int) := by omega
                  go_wp2_with fail
                  refine (sym_at gO gT gF n far _ _ _ e (e + 20) n rfl (by omega) rfl g _ hE h1 h2 (by omega) (HQ.out.mrg (.inl ⟨rfl, rfl⟩) he hlt3 (by omega) (Nat.le_refl _)) (by omega) hlt3 (Nat.le_refl _)).mono ?_; rintro x w5 ⟨rfl, g', hE5, hO5, hP5, hS5⟩
                  have HQ5 := Lib.hid (HQ.out.step (.inl ⟨rfl, rfl⟩) he hlt3 (by omega) (.inr rfl) (Nat.le_refl _) hP5 hS5)
                  have hO6 := hO.trans hO5
                  clear hE hO hO5 hP5 hS5
                  go_wp2_with fail
                  go_roundw
                  case rel => exact ⟨40, g', rfl, .inr (.inl ⟨rfl, HQ5.out.next⟩), hE5, hO6⟩
                  case measure => simp [intOf]; try omega
                · have hl3 : ¬ (e : Int) + 20 < (n : Int) := by omega
                  have HQ5 := Lib.hid (HQ.out.skip (.inl ⟨rfl, rfl⟩) he (by omega))
                  go_wp2_with fail
                  go_roundw
                  case rel => exact ⟨40, g, rfl, .inr (.inl ⟨rfl, HQ5.out.next⟩), hE, hO⟩
                  case measure => simp [intOf]; try omega
          · have HQ := Lib.hid hq; clear hq
            have hsn' : (40 : Int) < (n : Int) := by omega
            go_wp2_with fail
            go_loopw [7, 8] (fun v u wq => ∃ (e : Nat) (f : Fn_), v = .int .i64 e ∧ u = .int .i64 ((e : Int) + 80) ∧ e % 80 = 0 ∧ e ≤ n ∧ Qb far n 40 80 e f ∧ En gO gT gF n far f wq ∧ Only gO W wq) (fun _ u _ => n + 80 - (intOf u).toNat)
            case atStart => exact ⟨0, f, rfl, by first | rfl | go_num, by omega, Nat.zero_le _, HQ.out, hE, hO⟩
            case round =>
              clear hE hO HQ
              obtain ⟨e, g, rfl, rfl, he, hen, hQ, hE, hO⟩ := hrel
              have HQ := Lib.hid hQ; clear hQ
              by_cases hlt2 : e + 80 ≤ n
              · have hl2 : (e : Int) + 80 ≤ (n : Int) := by omega
                go_wp2_with fail
                refine (sym_at gO gT gF n far _ _ _ e (e + 40) (e + 80) rfl (by omega) (by omega) g _ hE h1 h2 (by omega) (HQ.out.mrg (.inr ⟨rfl, rfl⟩) he (by omega) (Nat.le_refl _) hlt2) (by omega) (by omega) hlt2).mono ?_; rintro x w5 ⟨rfl, g', hE5, hO5, hP5, hS5⟩
                have HQ5 := Lib.hid (HQ.out.step (.inr ⟨rfl, rfl⟩) he (show e + 40 < e + 80 by omega) (Nat.le_refl _) (.inl rfl) hlt2 hP5 hS5)
                have hO6 := hO.trans hO5
                clear hE hO hO5 hP5 hS5
                go_wp2_with fail
                go_roundw
                case rel => exact ⟨e + 80, g', by go_num, by go_num, by omega, hlt2, HQ5.out, hE5, hO6⟩
                case measure => simp [intOf]; omega
              · have hl2 : ¬ (e : Int) + 80 ≤ (n : Int) := by omega
                obtain ⟨w7, rfl⟩ : ∃ w7 : World, w7 = wr := ⟨_, rfl⟩
                by_cases hlt3 : e + 40 < n
                · have hl3 : (e : Int) + 40 < (n : Int) := by omega
                  go_wp2_with fail
                  refine (sym_at gO gT gF n far _ _ _ e (e + 40) n rfl (by omega) rfl g _ hE h1 h2 (by omega) (HQ.out.mrg (.inr ⟨rfl, rfl⟩) he hlt3 (by omega) (Nat.le_refl _)) (by omega) hlt3 (Nat.le_refl _)).mono ?_; rintro x w5 ⟨rfl, g', hE5, hO5, hP5, hS5⟩
                  have HQ5 := Lib.hid (HQ.out.step (.inr ⟨rfl, rfl⟩) he hlt3 (by omega) (.inr rfl) (Nat.le_refl _) hP5 hS5)
                  have hO6 := hO.trans hO5
                  clear hE hO hO5 hP5 hS5
                  go_wp2_with fail
                  go_roundw
                  case rel => exact ⟨80, g', rfl, .inr (.inr ⟨rfl, HQ5.out.last hn, HQ5.out.p⟩), hE5, hO6⟩
                  case measure => simp [intOf]; try omega
                · have hl3 : ¬ (e : Int) + 40 < (n : Int) := by omega
                  have HQ5 := Lib.hid (HQ.out.skip (.inr ⟨rfl, rfl⟩) he (by omega))
                  go_wp2_with fail
                  go_roundw
                  case rel => exact ⟨80, g, rfl, .inr (.inr ⟨rfl, HQ5.out.last hn, HQ5.out.p⟩), hE, hO⟩
                  case measure => simp [intOf]; try omega
          · omega
        · have hS : Sd far 0 n f ∧ Pm 0 n id f := by
            rcases hs with ⟨rfl, hq⟩ | ⟨rfl, hq⟩ | ⟨rfl, hq⟩
            · exact ⟨hq.end_ (.inl ⟨rfl, rfl⟩) (by omega), hq.p⟩
            · exact ⟨hq.end_ (.inr ⟨rfl, rfl⟩) (by omega), hq.p⟩
            · exact hq
          clear hs
          have hsn' : ¬ s < (n : Int) := hsn
          have HRR := Lib.hid (show SoP gO gT gF n far 0 n id W (.returned (.tuple #[])) _ from ⟨rfl, f, hE, hO, hS.2, hS.1⟩)
          clear hE hO hS
          go_wp2_with fail
          go_end0
          exact HRR.out
theorem sort_any (far : Nat → Int) (n : Nat) (hn : n ≤ 60) : Nr.SortC far n (ordF far n) := by
  intro W gO gT gF hO hT hF h1 h2
  have hs := stable_any gO gT gF n far W ⟨hO, hT, hF, fun j h => h⟩ h1 h2 hn
  go_enter Try.func74, Try.ntmps74
  go_wp2_with fail
  refine hs.mono ?_; rintro e w' ⟨rfl, f, hE, hOn, hP, hS⟩
  have HR := Lib.hid (show Only gO W w' ∧ w'.rowIs gO 3 n (fun j => .int .i64 (ordF far n j : Int)) from ⟨hOn, hE.o.congr (fun j hj => by show Value.int .i64 ((f j : Nat) : Int) = _; rw [ordF_eq hP hS j hj])⟩)
  clear hE hOn hP hS
  go_wp2_with fail
  go_end0
  exact ⟨rfl, HR.out.1, HR.out.2⟩
end Go.Proofs.Ytoiccljmdplfgaa.So
