/-
  What reads a footer: an offset, a stamp: walked.
-/
import Derived.Test.YtgdgkgeoigljcaaDoorFo6
namespace Go.Proofs.YtgdgkgeoigljcaaDoor.Fo
open Go.ChangeShapes Go.WideShapes Go.ChangeAt Go.RowKit Go.Shelf
open Go.Proofs.YtgdgkgeoigljcaaDoor
open Go.Proofs.YtgdgkgeoigljcaaDoor.Wd
open Go.Proofs.YtgdgkgeoigljcaaDoor.Rec
open Go.Proofs.YtgdgkgeoigljcaaDoor.Tb (Rc)
open Go.Proofs.YtgdgkgeoigljcaaDoor.Civ (Tab)
open Go.Lib (byteCells)
set_option linter.unusedVariables false
set_option linter.unusedSimpArgs false
theorem may_len (c : UInt8) (x : Rs) : (mayR c x).2.s.length ≤ x.s.length := by
  rcases may_cases c x with ⟨r, h1, h2⟩ | ⟨h1, _⟩
  · rw [h2, h1]; exact Nat.le_succ _
  · rw [h1]; exact Nat.le_refl _
theorem must_len (c : UInt8) (x : Rs) : (mustR c x).s.length ≤ x.s.length := by
  unfold mustR
  split
  · exact may_len c x
  · exact Nat.le_refl _
theorem numr_len (k : Nat) (x : Rs) : (numR k x).2.s.length ≤ x.s.length := by unfold numR; show (x.s.drop _).length ≤ _; rw [List.length_drop]; omega
theorem cnt_dig : ∀ (k : Nat) (l : List UInt8), ∀ b ∈ l.take (cntK k l), dgB b = true
  | 0, l, b, h => by unfold cntK at h; simp at h
  | _ + 1, [], b, h => by simp at h
  | k + 1, a :: r, b, h => by
    unfold cntK at h
    by_cases q : dgB a = true
    · rw [if_pos q, List.take_succ_cons] at h
      rcases List.mem_cons.1 h with e | e
      · subst e; exact q
      · exact cnt_dig k r b e
    · rw [if_neg q] at h; simp at h
theorem numr_le (k : Nat) (hk : k ≤ 2) (x : Rs) : (numR k x).1 ≤ 99 := by
  unfold numR
  exact (num_bd (Nat.le_trans (List.length_take_le _ _) (Nat.le_trans (cnt_le k x.s).1 hk)) (cnt_dig k x.s)).1
theorem cut_len (c : UInt8) (l : List UInt8) : (cutC c l).1.length ≤ l.length ∧ (cutC c l).2.1.length ≤ l.length := by
  rcases cut_idx c l with ⟨_, h⟩ | ⟨k, _, hk, h⟩
  · rw [h]; exact ⟨Nat.le_refl _, Nat.zero_le _⟩
  · rw [h]; exact ⟨List.length_take_le' _ _, by show (l.drop (k + 1)).length ≤ _; rw [List.length_drop]; omega⟩
theorem namer_len (x : Rs) : (nameR x).2.s.length ≤ x.s.length := by
  unfold nameR
  split
  · exact Nat.le_trans (cut_len 62 _).2 (may_len 60 x)
  · show (x.s.drop _).length ≤ _; rw [List.length_drop]; omega
theorem namer_le (x : Rs) : (nameR x).1.length ≤ x.s.length := by
  unfold nameR
  split
  · exact Nat.le_trans (cut_len 62 _).1 (may_len 60 x)
  · exact List.length_take_le' _ _
def sg (b : Bool) : Int := if b = true then 1 else -1
def offR (x : Rs) : Int × Rs :=
  if (mayR 58 (numR 2 (mayR 45 x).2).2).1 = true then
    (sg (mayR 45 x).1 * (((numR 2 (mayR 45 x).2).1 : Int) * 3600 + ((numR 2 (mayR 58 (numR 2 (mayR 45 x).2).2).2).1 : Int) * 60), (numR 2 (mayR 58 (numR 2 (mayR 45 x).2).2).2).2)
  else (sg (mayR 45 x).1 * (((numR 2 (mayR 45 x).2).1 : Int) * 3600), (mayR 58 (numR 2 (mayR 45 x).2).2).2)
set_option maxRecDepth 20000 in
set_option maxHeartbeats 6400000 in
theorem roff_any (g : Nat) (x0 : Rs) (w : World) (h0 : Rd w g x0) (len0 : x0.s.length ≤ 100000) :
    Calls Tryd.prog 27 #[.pointer (some ⟨g, 0, none⟩)] w fun e w' => e = .returned (.int .i64 (offR x0).1) ∧ Rd w' g (offR x0).2 ∧ KB g w w' := by
  have kk0 := KB.refl g w
  go_enter Tryd.func27, Tryd.ntmps27
  obtain ⟨b1, x1, E1⟩ : ∃ b y, mayR 45 x0 = (b, y) := ⟨_, _, rfl⟩
  have hr := may_any g 45 x0 _ h0
  rw [E1] at hr
  have len1 := may_len 45 x0; rw [E1] at len1; replace len1 : x1.s.length ≤ 100000 := Nat.le_trans len1 len0
  have HE1 := Lib.hid E1; clear E1
  go_wp2_with fail
  refine hr.mono ?_; rintro e W1 ⟨rfl, h1, kq⟩
  have kk1 := kk0.trans kq
  clear hr kq kk0 h0 len0
  cases b1 with
  | false =>
    obtain ⟨v2, x2, E2⟩ : ∃ v y, numR 2 x1 = (v, y) := ⟨_, _, rfl⟩
    have hr := rnum_any g 2 (by decide) x1 _ h1 len1
    rw [E2] at hr
    have len2 := numr_len 2 x1; have vb2 := numr_le 2 (by decide) x1; rw [E2] at len2 vb2; replace len2 : x2.s.length ≤ 100000 := Nat.le_trans len2 len1; replace vb2 : v2 ≤ 99 := vb2
    have wq2 : IntKind.u16.wrap (v2 : Int) = (v2 : Int) := by simp [IntKind.wrap, IntKind.bits, IntKind.signed]; omega
    have HE2 := Lib.hid E2; clear E2
    go_wp2_with fail
    refine hr.mono ?_; rintro e W2 ⟨rfl, h2, kq⟩
    have kk2 := kk1.trans kq
    clear hr kq kk1 h1 len1
    obtain ⟨b3, x3, E3⟩ : ∃ b y, mayR 58 x2 = (b, y) := ⟨_, _, rfl⟩
    have hr := may_any g 58 x2 _ h2
    rw [E3] at hr
    have len3 := may_len 58 x2; rw [E3] at len3; replace len3 : x3.s.length ≤ 100000 := Nat.le_trans len3 len2
    have HE3 := Lib.hid E3; clear E3
    go_wp2_with fail
    refine hr.mono ?_; rintro e W3 ⟨rfl, h3, kq⟩
    have kk3 := kk2.trans kq
    clear hr kq kk2 h2 len2
    cases b3 with
    | false =>
      have HF := Lib.hid (show offR x0 = (-((v2 : Int) * 3600), x3) by unfold offR; simp only [HE1.out, HE2.out, HE3.out]; simp [sg])
      go_wp2_with fail
      go_ret
      rw [HF.out]
      exact ⟨by simp; try omega, h3, kk3⟩
    | true =>
      obtain ⟨v4, x4, E4⟩ : ∃ v y, numR 2 x3 = (v, y) := ⟨_, _, rfl⟩
      have hr := rnum_any g 2 (by decide) x3 _ h3 len3
      rw [E4] at hr
      have len4 := numr_len 2 x3; have vb4 := numr_le 2 (by decide) x3; rw [E4] at len4 vb4; replace len4 : x4.s.length ≤ 100000 := Nat.le_trans len4 len3; replace vb4 : v4 ≤ 99 := vb4
      have wq4 : IntKind.u16.wrap (v4 : Int) = (v4 : Int) := by simp [IntKind.wrap, IntKind.bits, IntKind.signed]; omega
      have HE4 := Lib.hid E4; clear E4
      go_wp2_with fail
      refine hr.mono ?_; rintro e W4 ⟨rfl, h4, kq⟩
      have kk4 := kk3.trans kq
      clear hr kq kk3 h3 len3
      have HF := Lib.hid (show offR x0 = (-((v2 : Int) * 3600 + (v4 : Int) * 60), x4) by unfold offR; simp only [HE1.out, HE2.out, HE3.out, HE4.out]; simp [sg])
      go_wp2_with fail
      go_ret
      rw [HF.out]
      exact ⟨by simp; try omega, h4, kk4⟩
  | true =>
    obtain ⟨v2, x2, E2⟩ : ∃ v y, numR 2 x1 = (v, y) := ⟨_, _, rfl⟩
    have hr := rnum_any g 2 (by decide) x1 _ h1 len1
    rw [E2] at hr
    have len2 := numr_len 2 x1; have vb2 := numr_le 2 (by decide) x1; rw [E2] at len2 vb2; replace len2 : x2.s.length ≤ 100000 := Nat.le_trans len2 len1; replace vb2 : v2 ≤ 99 := vb2
    have wq2 : IntKind.u16.wrap (v2 : Int) = (v2 : Int) := by simp [IntKind.wrap, IntKind.bits, IntKind.signed]; omega
    have HE2 := Lib.hid E2; clear E2
    go_wp2_with fail
    refine hr.mono ?_; rintro e W2 ⟨rfl, h2, kq⟩
    have kk2 := kk1.trans kq
    clear hr kq kk1 h1 len1
    obtain ⟨b3, x3, E3⟩ : ∃ b y, mayR 58 x2 = (b, y) := ⟨_, _, rfl⟩
    have hr := may_any g 58 x2 _ h2
    rw [E3] at hr
    have len3 := may_len 58 x2; rw [E3] at len3; replace len3 : x3.s.length ≤ 100000 := Nat.le_trans len3 len2
    have HE3 := Lib.hid E3; clear E3
    go_wp2_with fail
    refine hr.mono ?_; rintro e W3 ⟨rfl, h3, kq⟩
    have kk3 := kk2.trans kq
    clear hr kq kk2 h2 len2
    cases b3 with
    | false =>
      have HF := Lib.hid (show offR x0 = (((v2 : Int) * 3600), x3) by unfold offR; simp only [HE1.out, HE2.out, HE3.out]; simp [sg])
      go_wp2_with fail
      go_ret
      rw [HF.out]
      exact ⟨by simp; try omega, h3, kk3⟩
    | true =>
      obtain ⟨v4, x4, E4⟩ : ∃ v y, numR 2 x3 = (v, y) := ⟨_, _, rfl⟩
      have hr := rnum_any g 2 (by decide) x3 _ h3 len3
      rw [E4] at hr
      have len4 := numr_len 2 x3; have vb4 := numr_le 2 (by decide) x3; rw [E4] at len4 vb4; replace len4 : x4.s.length ≤ 100000 := Nat.le_trans len4 len3; replace vb4 : v4 ≤ 99 := vb4
      have wq4 : IntKind.u16.wrap (v4 : Int) = (v4 : Int) := by simp [IntKind.wrap, IntKind.bits, IntKind.signed]; omega
      have HE4 := Lib.hid E4; clear E4
      go_wp2_with fail
      refine hr.mono ?_; rintro e W4 ⟨rfl, h4, kq⟩
      have kk4 := kk3.trans kq
      clear hr kq kk3 h3 len3
      have HF := Lib.hid (show offR x0 = (((v2 : Int) * 3600 + (v4 : Int) * 60), x4) by unfold offR; simp only [HE1.out, HE2.out, HE3.out, HE4.out]; simp [sg])
      go_wp2_with fail
      go_ret
      rw [HF.out]
      exact ⟨by simp; try omega, h4, kk4⟩
end Go.Proofs.YtgdgkgeoigljcaaDoor.Fo
