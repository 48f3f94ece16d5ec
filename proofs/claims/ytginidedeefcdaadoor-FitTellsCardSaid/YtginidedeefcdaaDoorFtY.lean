/-
  FIT: the record of a year's spans, or why there is none: fit.Year, walked.
-/
import Derived.Test.YtginidedeefcdaaDoorFtF
namespace Go.Proofs.YtginidedeefcdaaDoor.Ft
open Go.ChangeShapes Go.WideShapes Go.ChangeAt Go.RowKit
open Go.Proofs.YtginidedeefcdaaDoor
open Go.Proofs.YtginidedeefcdaaDoor.Wd
open Go.Proofs.YtginidedeefcdaaDoor.Rec
open Go.Proofs.YtginidedeefcdaaDoor.Yr
open Go.Proofs.YtginidedeefcdaaDoor.Tb
open Go.Proofs.YtginidedeefcdaaDoor.Clk (yrV yrE)
open Go.Proofs.YtginidedeefcdaaDoor.Civ (Tab Inv)
set_option linter.unusedVariables false
theorem atK_zero (l : List Sp) (Y : Int) (d : Bool) (z : St) : atK l Y d 0 z = z := rfl
theorem atK_succ (l : List Sp) (Y : Int) (d : Bool) (i : Nat) (z : St) : atK l Y d (i + 1) z = if (at_ l (i + 1)).d = d then stAt l Y (i + 1) else atK l Y d i z := rfl
theorem mono_f {l : List Sp} (hk : lkB l = true) : ∀ k, k < l.length → (at_ l 0).f ≤ (at_ l k).f ∧ (at_ l k).f ≤ (at_ l (l.length - 1)).f := by
  obtain ⟨h0, h⟩ := lk_iff.1 hk
  have step : ∀ i, i + 1 < l.length → (at_ l i).f < (at_ l (i + 1)).f := fun i hi => by
    have := h i hi
    unfold adj at this
    rw [Bool.and_eq_true, decide_eq_true_iff] at this
    exact this.1
  have up : ∀ d i, i + d < l.length → (at_ l i).f ≤ (at_ l (i + d)).f := by
    intro d
    induction d with
    | zero => intro i _; exact Int.le_refl _
    | succ d ih =>
      intro i hi
      have a := ih i (by omega)
      have b := step (i + d) (by omega)
      rw [show i + (d + 1) = i + d + 1 by omega]
      omega
  intro k hk
  refine ⟨by have := up k 0 (by omega); simpa using this, ?_⟩
  have := up (l.length - 1 - k) k (by omega)
  rwa [show k + (l.length - 1 - k) = l.length - 1 by omega] at this
theorem Good.f_bd {l : List Sp} {Y : Int} (g : Good l Y) {k : Nat} (hk : k < l.length) : begY Y ≤ (at_ l k).f ∧ (at_ l k).f < begY (Y + 1) := by
  have := mono_f g.k k hk
  have a := g.f; have b := g.t
  omega
theorem fitted_any (A : Option Addr) (n c : Nat) (l : List Sp) (Y : Int) (w : World) (hT : Tab w) (hs : Spans w w.heap.size A n l) (g : Good l Y) :
    Calls Tryd.prog 43 #[.slice A n c, .int .i64 Y, .int .i64 (begY (Y + 1))] w fun e w' => e = .returned (.tuple #[(fitR l Y).V, .int .i64 0]) ∧ Below w.heap.size w w' := by
  have hln := hs.1
  obtain ⟨y1, y2, gk, gf, gt, gw⟩ := id g
  have hb := begY_bd (Y := Y) (by omega) y2
  have gl := g.len
  by_cases h1 : n = 1 ∧ (at_ l 0).d = false
  · obtain ⟨rfl, hd⟩ := h1
    obtain ⟨a, rfl⟩ : ∃ a, l = [a] := by
      match l, hln with
      | [a], _ => exact ⟨a, rfl⟩
    have o := g.off (k := 0) (by simp)
    exact fitted_plain A c a Y _ w hs hd o.1 o.2.1 o.2.2
  · have hen := fun w hT => ends_yes Y w hT y1 y2
    have hoff : ∀ k, k < n → -86400 ≤ (at_ l k).o ∧ (at_ l k).o ≤ 86400 := fun k hk => (g.off (by omega)).2
    have hf : ∀ k, k < n → -62135596800 ≤ (at_ l k).f ∧ (at_ l k).f ≤ 253402300800 := fun k hk => by have := g.f_bd (k := k) (by omega); omega
    have hst : ∀ k, k + 1 < n → ccV l (k + 1) ≠ begY (Y + 1) → ∀ w, Tab w → Calls Tryd.prog 15 #[.int .i64 (ccV l (k + 1))] w fun e w' => e = .returned (.tuple #[.agg (sA (fsS (ccV l (k + 1)))), .int .i64 0]) ∧ Below w.heap.size w w' := by
      intro k hk hc w hT
      have hcc := g.cc (k := k + 1) (by omega) (by omega)
      have q := fs_yes (fs_in y1 y2 (c := ccV l (k + 1)) hcc.1 (by omega))
      have := stamp_any (ccV l (k + 1)) w hT (by omega) (by omega)
      rw [q.1, q.2] at this
      exact this
    have hfit := g.fit
    have hrc : fitR l Y = ⟨-(lastO false l 0 / 60), 0, (lastO false l 0 - lastO true l 0) / 60, atK l Y false (n - 1) (if 0 < lastO true l 0 then enA Y else enB Y), atK l Y true (n - 1) (if 0 ≤ lastO false l 0 then enA Y else enB Y)⟩ := by
      unfold fitR; rw [if_neg (by rw [hln]; exact h1), hln]
    have o60 : ∀ d, lastO d l 0 % 60 = 0 := by
      have : ∀ d (m : List Sp) (z : Int), (∀ s ∈ m, s.o % 60 = 0) → z % 60 = 0 → lastO d m z % 60 = 0 := by
        intro d m
        induction m with
        | nil => intro z _ hz; exact hz
        | cons s r ih =>
          intro z h hz
          unfold lastO
          refine ih _ (fun t ht => h t (List.mem_cons_of_mem _ ht)) ?_
          split
          · exact h s (List.mem_cons_self ..)
          · exact hz
      intro d
      exact this d l 0 (fun s hs => by obtain ⟨i, hi, rfl⟩ := List.getElem_of_mem hs; rw [at_eq hi]; exact (g.off hi).1) (by decide)
    have obd : ∀ d, -86400 ≤ lastO d l 0 ∧ lastO d l 0 ≤ 86400 := fun d => lastO_bd d l 0 (fun s hs => by obtain ⟨i, hi, rfl⟩ := List.getElem_of_mem hs; rw [at_eq hi]; exact (g.off hi).2) (by decide)
    have okO' : ∀ d, okO (lastO d l 0) = true := fun d => by
      have a := o60 d; have b := obd d
      unfold okO wholeM near; simp; omega
    have hB := hfit.b
    have hK : rcOk (fitR l Y).b (fitR l Y).c (fitR l Y).d (fitR l Y).p (fitR l Y).q = true := hfit.ok
    rw [hrc] at hB hK ⊢
    generalize hp : atK l Y false (n - 1) (if 0 < lastO true l 0 then enA Y else enB Y) = p at *
    generalize hq : atK l Y true (n - 1) (if 0 ≤ lastO false l 0 then enA Y else enB Y) = q at *
    have hmk : ∀ w, Tab w → Calls Tryd.prog 78 #[.int .i64 (lastO false l 0), .int .i64 (lastO true l 0), .agg (sA p), .agg (sA q)] w fun e w' => e = .returned (.tuple #[.agg (rcA (-(lastO false l 0 / 60)) 0 ((lastO false l 0 - lastO true l 0) / 60) p q), .int .i64 0]) ∧ Below w.heap.size w w' := by
      intro w hT
      have a := obd false; have b := obd true
      have := make_any (lastO false l 0) (lastO true l 0) p q w hT hB.p hB.q (by omega) (by omega)
      unfold mkV mkE mkOk at this
      rw [okO' false, okO' true] at this
      have hK' : rcOk (-(lastO false l 0 / 60)) 0 ((lastO false l 0 - lastO true l 0) / 60) p q = true := hK
      rw [hK'] at this
      exact this
    refine fitted_main A n c l Y (begY (Y + 1)) (enA Y) (enB Y) w hT hs (by omega) (by omega) h1 hoff hf hen hst
      (fun k => atK l Y false k (if 0 < lastO true l 0 then enA Y else enB Y)) (fun k => atK l Y true k (if 0 ≤ lastO false l 0 then enA Y else enB Y)) (fun k => stAt l Y (k + 1))
      rfl rfl (fun k => rfl) (fun k => rfl) (fun k => rfl) _ ?_ (rcA (-(lastO false l 0 / 60)) 0 ((lastO false l 0 - lastO true l 0) / 60) p q) rfl rfl (by kernel_rfl)
    simp only [hp, hq]
    exact hmk
def rgB (l : List Sp) (Y : Int) : Bool := lkB l && decide ((at_ l 0).f = begY Y ∧ (at_ l (l.length - 1)).f < begY (Y + 1))
def fyW (l : List Sp) (Y : Int) : Int := if (inY Y && rgB l Y) = true then whyV l (begY Y) (begY (Y + 1)) else 0
def fyE (l : List Sp) (Y : Int) : Int := if inY Y = false then 1 else if rgB l Y = false then 2 else 0
def fyB (l : List Sp) (Y : Int) : Bool := (inY Y && rgB l Y) && (whyV l (begY Y) (begY (Y + 1)) == 0)
def fyR (l : List Sp) (Y : Int) : Rc := if fyB l Y = true then fitR l Y else Rc.nil
set_option maxRecDepth 100000 in
set_option maxHeartbeats 3200000 in
theorem year_out (A : Option Addr) (n c : Nat) (Y : Int) (w : World) (h : inY Y = false) :
    Calls Tryd.prog 13 #[.slice A n c, .int .i64 Y] w fun e w' => e = .returned (.tuple #[Rc.nil.V, .int .u8 0, .int .i64 1]) ∧ Below w.heap.size w w' := by
  have x0 := Blk.new w 28 z19
  have b0 : Below w.heap.size w (w.alloc (.cells z19 28)) := (Below.refl _ _).alloc (Nat.le_refl _) _
  unfold z19 at x0 b0
  have hb := fun w => bounds_no Y w h
  clear h
  go_enter Tryd.func13, Tryd.ntmps13
  go_wp2_with fail
  refine (hb _).mono ?_; rintro e wq ⟨rfl, rfl⟩
  go_wp2_with (refine wpList_store_g rfl 28 _ _ rfl rfl _ 0 z19 z19 rfl rfl _ _ x0 (by show 0 + 19 ≤ 19; decide) (by kernel_rfl) (by kernel_rfl) (by kernel_rfl) ?_)
  exact bodyPost_ret (res_ctt rfl _ _ _ _ z19 _ _ _ rfl rfl rfl (Blk.row x0 _) Tryd.underlying28 rfl (by kernel_rfl)) rfl ⟨rfl, below_row b0 (Nat.le_refl _) _⟩
set_option maxRecDepth 100000 in
set_option maxHeartbeats 3200000 in
theorem year_bad (A : Option Addr) (n c : Nat) (l : List Sp) (Y F T : Int) (w : World) (hs : Spans w w.heap.size A n l) (hb : ∀ w, Calls Tryd.prog 41 #[.int .i64 Y] w fun e w' => e = .returned (.tuple #[.int .i64 F, .int .i64 T, .int .i64 0]) ∧ w = w')
    (hc : ∀ w, Spans w w.heap.size A n l → Calls Tryd.prog 19 #[.slice A n c] w fun e w' => e = .returned (.int .i64 2) ∧ Below w.heap.size w w') :
    Calls Tryd.prog 13 #[.slice A n c, .int .i64 Y] w fun e w' => e = .returned (.tuple #[Rc.nil.V, .int .u8 0, .int .i64 2]) ∧ Below w.heap.size w w' := by
  have x0 := Blk.new w 28 z19
  have b0 : Below w.heap.size w (w.alloc (.cells z19 28)) := (Below.refl _ _).alloc (Nat.le_refl _) _
  unfold z19 at x0 b0
  have hs0 := (hs.below b0).more b0.size
  go_enter Tryd.func13, Tryd.ntmps13
  go_wp2_with fail
  refine (hb _).mono ?_; rintro e wq ⟨rfl, rfl⟩
  go_wp2_with fail
  refine (hc _ hs0).mono ?_; rintro e w1 ⟨rfl, hb1⟩
  have x1 := x0.below hb1 x0.lt
  have b1 := b0.trans (hb1.mono b0.size)
  go_wp2_with (refine wpList_store_g rfl 28 _ _ rfl rfl _ 0 z19 z19 rfl rfl _ _ x1 (by show 0 + 19 ≤ 19; decide) (by kernel_rfl) (by kernel_rfl) (by kernel_rfl) ?_)
  exact bodyPost_ret (res_ctt rfl _ _ _ _ z19 _ _ _ rfl rfl rfl (Blk.row x1 _) Tryd.underlying28 rfl (by kernel_rfl)) rfl ⟨rfl, below_row b1 (Nat.le_refl _) _⟩
set_option maxRecDepth 100000 in
set_option maxHeartbeats 3200000 in
theorem year_first (A : Option Addr) (n c m : Nat) (l : List Sp) (Y F T f0 f1 : Int) (w : World) (hs : Spans w w.heap.size A n l) (hnm : n = m + 1) (hm : n ≤ maxLen) (h0 : (at_ l 0).f = f0) (h1 : (at_ l m).f = f1) (hb : ∀ w, Calls Tryd.prog 41 #[.int .i64 Y] w fun e w' => e = .returned (.tuple #[.int .i64 F, .int .i64 T, .int .i64 0]) ∧ w = w')
    (hc : ∀ w, Spans w w.heap.size A n l → Calls Tryd.prog 19 #[.slice A n c] w fun e w' => e = .returned (.int .i64 0) ∧ Below w.heap.size w w') (hf : f0 ≠ F) :
    Calls Tryd.prog 13 #[.slice A n c, .int .i64 Y] w fun e w' => e = .returned (.tuple #[Rc.nil.V, .int .u8 0, .int .i64 2]) ∧ Below w.heap.size w w' := by
  have x0 := Blk.new w 28 z19
  have b0 : Below w.heap.size w (w.alloc (.cells z19 28)) := (Below.refl _ _).alloc (Nat.le_refl _) _
  unfold z19 at x0 b0
  unfold maxLen at hm
  have hs0 := (hs.below b0).more b0.size
  subst hnm
  have hfb : (f0 != F) = true := by rw [bne_iff_ne]; exact hf
  go_enter Tryd.func13, Tryd.ntmps13
  go_wp2_with fail
  refine (hb _).mono ?_; rintro e wq ⟨rfl, rfl⟩
  go_wp2_with fail
  refine (hc _ hs0).mono ?_; rintro e w1 ⟨rfl, hb1⟩
  have x1 := x0.below hb1 x0.lt
  have b1 := b0.trans (hb1.mono b0.size)
  obtain ⟨ad, rfl, r0⟩ := (hs.below b1).row (k := 0) (by omega)
  obtain ⟨ad', e2, r1⟩ := (hs.below b1).row (k := m) (by omega)
  obtain rfl : ad = ad' := Option.some.inj e2
  obtain ⟨q10, q11, q12, q13, q14⟩ := SpAt.of r0
  obtain ⟨q20, q21, q22, q23, q24⟩ := SpAt.of r1
  rw [Nat.zero_mul, add_zero] at q10
  rw [h0] at q10
  rw [h1] at q20
  clear r0 r1 e2 q11 q12 q13 q14 q21 q22 q23 q24
  have j1 : (0 : Int) ≤ (m : Int) := by omega
  have j2 : ((m : Int) + 1).toNat = m + 1 := by omega
  go_wp2_with (refine wpList_store_g rfl 28 _ _ rfl rfl _ 0 z19 z19 rfl rfl _ _ x1 (by show 0 + 19 ≤ 19; decide) (by kernel_rfl) (by kernel_rfl) (by kernel_rfl) ?_)
  exact bodyPost_ret (res_ctt rfl _ _ _ _ z19 _ _ _ rfl rfl rfl (Blk.row x1 _) Tryd.underlying28 rfl (by kernel_rfl)) rfl ⟨rfl, below_row b1 (Nat.le_refl _) _⟩
set_option maxRecDepth 100000 in
set_option maxHeartbeats 3200000 in
theorem year_last (A : Option Addr) (n c m : Nat) (l : List Sp) (Y F T f0 f1 : Int) (w : World) (hs : Spans w w.heap.size A n l) (hnm : n = m + 1) (hm : n ≤ maxLen) (h0 : (at_ l 0).f = f0) (h1 : (at_ l m).f = f1) (hb : ∀ w, Calls Tryd.prog 41 #[.int .i64 Y] w fun e w' => e = .returned (.tuple #[.int .i64 F, .int .i64 T, .int .i64 0]) ∧ w = w')
    (hc : ∀ w, Spans w w.heap.size A n l → Calls Tryd.prog 19 #[.slice A n c] w fun e w' => e = .returned (.int .i64 0) ∧ Below w.heap.size w w') (hf : f0 = F) (ht : T ≤ f1) :
    Calls Tryd.prog 13 #[.slice A n c, .int .i64 Y] w fun e w' => e = .returned (.tuple #[Rc.nil.V, .int .u8 0, .int .i64 2]) ∧ Below w.heap.size w w' := by
  have x0 := Blk.new w 28 z19
  have b0 : Below w.heap.size w (w.alloc (.cells z19 28)) := (Below.refl _ _).alloc (Nat.le_refl _) _
  unfold z19 at x0 b0
  unfold maxLen at hm
  have hs0 := (hs.below b0).more b0.size
  subst hnm
  subst hf
  have hfb : (f0 != f0) = false := by simp
  go_enter Tryd.func13, Tryd.ntmps13
  go_wp2_with fail
  refine (hb _).mono ?_; rintro e wq ⟨rfl, rfl⟩
  go_wp2_with fail
  refine (hc _ hs0).mono ?_; rintro e w1 ⟨rfl, hb1⟩
  have x1 := x0.below hb1 x0.lt
  have b1 := b0.trans (hb1.mono b0.size)
  obtain ⟨ad, rfl, r0⟩ := (hs.below b1).row (k := 0) (by omega)
  obtain ⟨ad', e2, r1⟩ := (hs.below b1).row (k := m) (by omega)
  obtain rfl : ad = ad' := Option.some.inj e2
  obtain ⟨q10, q11, q12, q13, q14⟩ := SpAt.of r0
  obtain ⟨q20, q21, q22, q23, q24⟩ := SpAt.of r1
  rw [Nat.zero_mul, add_zero] at q10
  rw [h0] at q10
  rw [h1] at q20
  clear r0 r1 e2 q11 q12 q13 q14 q21 q22 q23 q24
  have j1 : (0 : Int) ≤ (m : Int) := by omega
  have j2 : ((m : Int) + 1).toNat = m + 1 := by omega
  go_wp2_with (refine wpList_store_g rfl 28 _ _ rfl rfl _ 0 z19 z19 rfl rfl _ _ x1 (by show 0 + 19 ≤ 19; decide) (by kernel_rfl) (by kernel_rfl) (by kernel_rfl) ?_)
  exact bodyPost_ret (res_ctt rfl _ _ _ _ z19 _ _ _ rfl rfl rfl (Blk.row x1 _) Tryd.underlying28 rfl (by kernel_rfl)) rfl ⟨rfl, below_row b1 (Nat.le_refl _) _⟩
set_option maxRecDepth 100000 in
set_option maxHeartbeats 3200000 in
theorem year_why (A : Option Addr) (n c m : Nat) (l : List Sp) (Y F T f0 f1 y : Int) (w : World) (hs : Spans w w.heap.size A n l) (hnm : n = m + 1) (hm : n ≤ maxLen) (h0 : (at_ l 0).f = f0) (h1 : (at_ l m).f = f1) (hb : ∀ w, Calls Tryd.prog 41 #[.int .i64 Y] w fun e w' => e = .returned (.tuple #[.int .i64 F, .int .i64 T, .int .i64 0]) ∧ w = w')
    (hc : ∀ w, Spans w w.heap.size A n l → Calls Tryd.prog 19 #[.slice A n c] w fun e w' => e = .returned (.int .i64 0) ∧ Below w.heap.size w w')
    (hw : ∀ w, Spans w w.heap.size A n l → Calls Tryd.prog 42 #[.slice A n c, .int .i64 F, .int .i64 T] w fun e w' => e = .returned (.int .u8 y) ∧ Below w.heap.size w w') (hf : f0 = F) (ht : f1 < T) (hy : y ≠ 0) :
    Calls Tryd.prog 13 #[.slice A n c, .int .i64 Y] w fun e w' => e = .returned (.tuple #[Rc.nil.V, .int .u8 y, .int .i64 0]) ∧ Below w.heap.size w w' := by
  have x0 := Blk.new w 28 z19
  have b0 : Below w.heap.size w (w.alloc (.cells z19 28)) := (Below.refl _ _).alloc (Nat.le_refl _) _
  unfold z19 at x0 b0
  unfold maxLen at hm
  have hs0 := (hs.below b0).more b0.size
  subst hnm
  subst hf
  have hfb : (f0 != f0) = false := by simp
  have hyb : (y != 0) = true := by rw [bne_iff_ne]; exact hy
  have ht2 : ¬ T ≤ f1 := by omega
  go_enter Tryd.func13, Tryd.ntmps13
  go_wp2_with fail
  refine (hb _).mono ?_; rintro e wq ⟨rfl, rfl⟩
  go_wp2_with fail
  refine (hc _ hs0).mono ?_; rintro e w1 ⟨rfl, hb1⟩
  have x1 := x0.below hb1 x0.lt
  have b1 := b0.trans (hb1.mono b0.size)
  obtain ⟨ad, rfl, r0⟩ := (hs.below b1).row (k := 0) (by omega)
  obtain ⟨ad', e2, r1⟩ := (hs.below b1).row (k := m) (by omega)
  obtain rfl : ad = ad' := Option.some.inj e2
  obtain ⟨q10, q11, q12, q13, q14⟩ := SpAt.of r0
  obtain ⟨q20, q21, q22, q23, q24⟩ := SpAt.of r1
  rw [Nat.zero_mul, add_zero] at q10
  rw [h0] at q10
  rw [h1] at q20
  clear r0 r1 e2 q11 q12 q13 q14 q21 q22 q23 q24
  have j1 : (0 : Int) ≤ (m : Int) := by omega
  have j2 : ((m : Int) + 1).toNat = m + 1 := by omega
  have hs1 := (hs.below b1).more b1.size
  go_wp2_with fail
  refine (hw _ hs1).mono ?_; rintro e w2 ⟨rfl, hb2⟩
  have x2 := x1.below hb2 x1.lt
  have b2 := b1.trans (hb2.mono b1.size)
  go_wp2_with (refine wpList_store_g rfl 28 _ _ rfl rfl _ 0 z19 z19 rfl rfl _ _ x2 (by show 0 + 19 ≤ 19; decide) (by kernel_rfl) (by kernel_rfl) (by kernel_rfl) ?_)
  exact bodyPost_ret (res_ctt rfl _ _ _ _ z19 _ _ _ rfl rfl rfl (Blk.row x2 _) Tryd.underlying28 rfl (by kernel_rfl)) rfl ⟨rfl, below_row b2 (Nat.le_refl _) _⟩
set_option maxRecDepth 100000 in
set_option maxHeartbeats 3200000 in
theorem year_good (A : Option Addr) (n c m : Nat) (l : List Sp) (Y F T f0 f1 : Int) (w : World) (hs : Spans w w.heap.size A n l) (hnm : n = m + 1) (hm : n ≤ maxLen) (h0 : (at_ l 0).f = f0) (h1 : (at_ l m).f = f1) (hT : Tab w) (hb : ∀ w, Calls Tryd.prog 41 #[.int .i64 Y] w fun e w' => e = .returned (.tuple #[.int .i64 F, .int .i64 T, .int .i64 0]) ∧ w = w')
    (hc : ∀ w, Spans w w.heap.size A n l → Calls Tryd.prog 19 #[.slice A n c] w fun e w' => e = .returned (.int .i64 0) ∧ Below w.heap.size w w')
    (hw : ∀ w, Spans w w.heap.size A n l → Calls Tryd.prog 42 #[.slice A n c, .int .i64 F, .int .i64 T] w fun e w' => e = .returned (.int .u8 0) ∧ Below w.heap.size w w') (r : Rc)
    (hft : ∀ w, Tab w → Spans w w.heap.size A n l → Calls Tryd.prog 43 #[.slice A n c, .int .i64 Y, .int .i64 T] w fun e w' => e = .returned (.tuple #[r.V, .int .i64 0]) ∧ Below w.heap.size w w') (hf : f0 = F) (ht : f1 < T) :
    Calls Tryd.prog 13 #[.slice A n c, .int .i64 Y] w fun e w' => e = .returned (.tuple #[r.V, .int .u8 0, .int .i64 0]) ∧ Below w.heap.size w w' := by
  have x0 := Blk.new w 28 z19
  have b0 : Below w.heap.size w (w.alloc (.cells z19 28)) := (Below.refl _ _).alloc (Nat.le_refl _) _
  unfold z19 at x0 b0
  unfold maxLen at hm
  have hs0 := (hs.below b0).more b0.size
  subst hnm
  subst hf
  have hfb : (f0 != f0) = false := by simp
  have ht2 : ¬ T ≤ f1 := by omega
  go_enter Tryd.func13, Tryd.ntmps13
  go_wp2_with fail
  refine (hb _).mono ?_; rintro e wq ⟨rfl, rfl⟩
  go_wp2_with fail
  refine (hc _ hs0).mono ?_; rintro e w1 ⟨rfl, hb1⟩
  have x1 := x0.below hb1 x0.lt
  have b1 := b0.trans (hb1.mono b0.size)
  obtain ⟨ad, rfl, r0⟩ := (hs.below b1).row (k := 0) (by omega)
  obtain ⟨ad', e2, r1⟩ := (hs.below b1).row (k := m) (by omega)
  obtain rfl : ad = ad' := Option.some.inj e2
  obtain ⟨q10, q11, q12, q13, q14⟩ := SpAt.of r0
  obtain ⟨q20, q21, q22, q23, q24⟩ := SpAt.of r1
  rw [Nat.zero_mul, add_zero] at q10
  rw [h0] at q10
  rw [h1] at q20
  clear r0 r1 e2 q11 q12 q13 q14 q21 q22 q23 q24
  have j1 : (0 : Int) ≤ (m : Int) := by omega
  have j2 : ((m : Int) + 1).toNat = m + 1 := by omega
  have hs1 := (hs.below b1).more b1.size
  go_wp2_with fail
  refine (hw _ hs1).mono ?_; rintro e w2 ⟨rfl, hb2⟩
  have x2 := x1.below hb2 x1.lt
  have b2 := b1.trans (hb2.mono b1.size)
  have hs2 := (hs.below b2).more b2.size
  have T2 := hT.below hT.1 b2
  go_wp2_with fail
  refine (hft _ T2 hs2).mono ?_; rintro e w3 ⟨rfl, hb3⟩
  have x3 := (x2.below hb3 x2.lt).alloc (.cells r.A 28)
  have b3 := b2.trans (hb3.mono b2.size)
  have b4 := b3.alloc b3.size (.cells r.A 28)
  have y4 := Blk.new w3 28 r.A
  clear x0 x1 x2 b0 b1 b2 hb1 hb2 hb3 hs hs0 hs1 hs2 hb hc hw hft
  go_wp2_with (first | refine wpList_store_new rfl 28 _ _ rfl rfl w3.heap.size r.A rfl rfl _ #[.int .i32 0, .int .i32 0, .int .i32 0, .int .u16 0, .int .u16 0, .int .u16 0, .int .u16 0, .int .u16 0, .int .u16 0, .int .u16 0, .int .u16 0, .int .u16 0, .int .u16 0, .int .u16 0, .int .u16 0, .int .u16 0, .int .u16 0, .int .u16 0, .int .u16 0] w3 rfl rfl rfl (by kernel_rfl) (by kernel_rfl) ?_ | refine wpList_row_g rfl 28 _ rfl _ rfl _ _ _ _ y4 Tryd.underlying28 rfl (by kernel_rfl) ?_ | refine wpList_store_g rfl 28 _ _ rfl rfl _ 0 r.A r.A rfl rfl _ _ x3 (by show 0 + 19 ≤ 19; decide) (by kernel_rfl) (by kernel_rfl) (by kernel_rfl) ?_)
  exact bodyPost_ret (res_ctt rfl _ _ _ _ r.A _ _ _ rfl rfl rfl (Blk.row x3 _) Tryd.underlying28 rfl (by kernel_rfl)) rfl ⟨rfl, below_row b4 (Nat.le_refl _) _⟩
theorem year_any (A : Option Addr) (n c : Nat) (l : List Sp) (Y : Int) (w : World) (hT : Tab w) (hs : Spans w w.heap.size A n l) (hm : n ≤ maxLen) (hnc : n ≤ c) :
    Calls Tryd.prog 13 #[.slice A n c, .int .i64 Y] w fun e w' => e = .returned (.tuple #[(fyR l Y).V, .int .u8 (fyW l Y), .int .i64 (fyE l Y)]) ∧ Below w.heap.size w w' := by
  cases hY : inY Y with
  | false =>
    have e1 : fyR l Y = Rc.nil := by unfold fyR fyB; rw [hY]; rfl
    have e2 : fyW l Y = 0 := by unfold fyW; rw [hY]; rfl
    have e3 : fyE l Y = 1 := by unfold fyE; rw [hY]; rfl
    rw [e1, e2, e3]
    exact year_out A n c Y w hY
  | true =>
    have hYY := of_decide_eq_true hY
    obtain ⟨y1, y2⟩ := hYY
    have hb := fun w => bounds_yes Y w y1 y2
    have hck := fun w hs => check_any A n c l w hs hm
    have hln := hs.1
    cases hr : rgB l Y with
    | false =>
      have e1 : fyR l Y = Rc.nil := by unfold fyR fyB; rw [hY, hr]; rfl
      have e2 : fyW l Y = 0 := by unfold fyW; rw [hY, hr]; rfl
      have e3 : fyE l Y = 2 := by unfold fyE; rw [hY, hr]; rfl
      rw [e1, e2, e3]
      cases hk : lkB l with
      | false =>
        have e : lkE l = 2 := by unfold lkE; rw [hk]; rfl
        simp only [e] at hck
        exact year_bad A n c l Y _ _ w hs hb hck
      | true =>
        have e : lkE l = 0 := by unfold lkE; rw [hk]; rfl
        simp only [e] at hck
        have h0 := (lk_iff.1 hk).1
        by_cases hf : (at_ l 0).f = begY Y
        · have ht : begY (Y + 1) ≤ (at_ l (n - 1)).f := by
            unfold rgB at hr
            rw [hk, Bool.true_and] at hr
            have := of_decide_eq_false hr
            rw [hln] at this
            omega
          exact year_last A n c (n - 1) l Y _ _ _ _ w hs (by omega) hm rfl rfl hb hck hf ht
        · exact year_first A n c (n - 1) l Y _ _ _ _ w hs (by omega) hm rfl rfl hb hck hf
    | true =>
      have hr' := hr
      unfold rgB at hr'
      rw [Bool.and_eq_true, decide_eq_true_iff] at hr'
      obtain ⟨hk, hf, ht⟩ := hr'
      have e : lkE l = 0 := by unfold lkE; rw [hk]; rfl
      simp only [e] at hck
      have h0 := (lk_iff.1 hk).1
      have hbd := begY_bd (Y := Y) (by omega) y2
      have hff : ∀ k, k < n → -62135596800 ≤ (at_ l k).f ∧ (at_ l k).f ≤ 253402300800 := fun k hk' => by
        have := mono_f hk k (by omega)
        omega
      have hw := fun w hs => why_any A n c l (begY Y) (begY (Y + 1)) w hs hm hnc hff
      have e3 : fyE l Y = 0 := by unfold fyE; rw [hY, hr]; rfl
      have e2 : fyW l Y = whyV l (begY Y) (begY (Y + 1)) := by unfold fyW; rw [hY, hr]; rfl
      rw [hln] at ht
      rw [e2, e3]
      by_cases hz : whyV l (begY Y) (begY (Y + 1)) = 0
      · have e1 : fyR l Y = fitR l Y := by unfold fyR fyB; rw [hY, hr, hz]; rfl
        rw [e1, hz]
        simp only [hz] at hw
        have g : Good l Y := ⟨y1, y2, hk, hf, by rw [hln]; exact ht, hz⟩
        exact year_good A n c (n - 1) l Y _ _ _ _ w hs (by omega) hm rfl rfl hT hb hck hw (fitR l Y) (fun w hT hs => fitted_any A n c l Y w hT hs g) hf ht
      · have e1 : fyR l Y = Rc.nil := by
          unfold fyR fyB; rw [hY, hr]
          rw [if_neg]; intro h; simp at h; exact hz h
        rw [e1]
        exact year_why A n c (n - 1) l Y _ _ _ _ _ w hs (by omega) hm rfl rfl hb hck hw hf ht hz
end Go.Proofs.YtginidedeefcdaaDoor.Ft
