/-
  FIT: the record that is found: walked.
-/
import Derived.Test.YtginidedeefcdaaDoorFtW
import Derived.Test.YtginidedeefcdaaDoorFtO
namespace Go.Proofs.YtginidedeefcdaaDoor.Ft
open Go.ChangeShapes Go.WideShapes Go.ChangeAt Go.RowKit
open Go.Proofs.YtginidedeefcdaaDoor
open Go.Proofs.YtginidedeefcdaaDoor.Wd
open Go.Proofs.YtginidedeefcdaaDoor.Rec
open Go.Proofs.YtginidedeefcdaaDoor.Yr
open Go.Proofs.YtginidedeefcdaaDoor.Tb
open Go.Proofs.YtginidedeefcdaaDoor.Clk (yrV yrE)
open Go.Proofs.YtginidedeefcdaaDoor.Civ (Tab Inv)
set_option linter.unusedVariables false
set_option linter.unusedSimpArgs false
/-- what fitted is called with -/
structure Good (l : List Sp) (Y : Int) : Prop where
  y1 : 1601 ≤ Y
  y2 : Y ≤ 9999
  k : lkB l = true
  f : (at_ l 0).f = begY Y
  t : (at_ l (l.length - 1)).f < begY (Y + 1)
  w : whyV l (begY Y) (begY (Y + 1)) = 0
theorem Good.fit {l : List Sp} {Y : Int} (g : Good l Y) : Fit (fitR l Y) Y l := fit_law g.y1 g.y2 g.k g.f g.t g.w
theorem Good.len {l : List Sp} {Y : Int} (g : Good l Y) : 1 ≤ l.length ∧ l.length ≤ 3 := ⟨(lk_iff.1 g.k).1, (why_parts g.w).2.2.1⟩
theorem Good.off {l : List Sp} {Y : Int} (g : Good l Y) {k : Nat} (hk : k < l.length) : (at_ l k).o % 60 = 0 ∧ -86400 ≤ (at_ l k).o ∧ (at_ l k).o ≤ 86400 := off_ok (why_parts g.w).1 (why_parts g.w).2.1 hk
theorem Good.cc {l : List Sp} {Y : Int} (g : Good l Y) {k : Nat} (h1 : 1 ≤ k) (hk : k < l.length) : begY Y ≤ ccV l k ∧ ccV l k ≤ begY (Y + 1) := dat_no (why_parts g.w).2.2.2.2 h1 hk
theorem lastO_app (d : Bool) (l : List Sp) (s : Sp) : ∀ z, lastO d (l ++ [s]) z = if s.d = d then s.o else lastO d l z := by
  induction l with
  | nil => intro z; rfl
  | cons a r ih => intro z; show lastO d (r ++ [s]) _ = _; rw [ih]; rfl
theorem lastO_take (d : Bool) {l : List Sp} {k : Nat} (hk : k < l.length) (z : Int) : lastO d (l.take (k + 1)) z = if (at_ l k).d = d then (at_ l k).o else lastO d (l.take k) z := by
  rw [List.take_succ_eq_append_getElem hk, lastO_app, at_eq hk]
theorem lastO_bd (d : Bool) : ∀ (l : List Sp) (z : Int), (∀ s ∈ l, -86400 ≤ s.o ∧ s.o ≤ 86400) → -86400 ≤ z ∧ z ≤ 86400 → -86400 ≤ lastO d l z ∧ lastO d l z ≤ 86400
  | [], z, _, hz => hz
  | s :: r, z, h, hz => by
    unfold lastO
    refine lastO_bd d r _ (fun t ht => h t (List.mem_cons_of_mem _ ht)) ?_
    split
    · exact h s (List.mem_cons_self ..)
    · exact hz
set_option maxRecDepth 100000 in
set_option maxHeartbeats 3200000 in
theorem fitted_plain (A : Option Addr) (c : Nat) (a : Sp) (Y T : Int) (w : World) (hs : Spans w w.heap.size A 1 [a]) (hd : a.d = false) (ho : a.o % 60 = 0) (h1 : -86400 ≤ a.o) (h2 : a.o ≤ 86400) :
    Calls Tryd.prog 43 #[.slice A 1 c, .int .i64 Y, .int .i64 T] w fun e w' => e = .returned (.tuple #[(fitR [a] Y).V, .int .i64 0]) ∧ Below w.heap.size w w' := by
  have hV := Lib.hid (show (fitR [a] Y).V = .agg (rcA (-(a.o / 60)) 0 0 St.nil St.nil) by unfold fitR; rw [if_pos ⟨rfl, hd⟩]; rfl)
  have okq : okO a.o = true := by unfold okO wholeM near; simp; omega
  have hpl := fun w => plain_any a.o w
  have e1 : plV a.o = .agg (rcA (-(a.o / 60)) 0 0 St.nil St.nil) := by unfold plV; rw [if_pos okq]
  have e2 : plE a.o = 0 := by unfold plE; rw [if_pos okq]
  simp only [e1, e2] at hpl
  rw [hV.out]
  have x0 := Blk.new w 28 z19
  have b0 : Below w.heap.size w (w.alloc (.cells z19 28)) := (Below.refl _ _).alloc (Nat.le_refl _) _
  obtain ⟨ad, rfl, r1⟩ := (hs.below b0).row (k := 0) (by decide)
  have eA : at_ [a] 0 = a := rfl
  rw [eA] at r1
  obtain ⟨q10, q11, q12, q13, q14⟩ := SpAt.of r1
  rw [hd] at q12 q14
  clear e1 e2 okq hd ho h1 h2 r1 eA hs
  rw [Nat.zero_mul, add_zero] at q10 q11 q12 q13 q14
  unfold z19 at x0 b0 q10 q11 q12 q13 q14
  generalize a.o / 60 = O at *
  generalize a.o = O' at *
  go_enter Tryd.func43, Tryd.ntmps43
  go_wp2_with fail
  refine (hpl _).mono ?_; rintro e w1 ⟨rfl, hb1⟩
  have x1 := x0.below hb1 x0.lt
  have B1 := b0.trans (hb1.mono b0.size)
  go_wp2_with (refine wpList_store_g rfl 28 _ _ rfl rfl _ 0 (rcA (-O) 0 0 St.nil St.nil) (rcA (-O) 0 0 St.nil St.nil) rfl rfl _ _ x1 (by show 0 + 19 ≤ 19; decide) (by kernel_rfl) (by kernel_rfl) (by kernel_rfl) ?_)
  exact bodyPost_ret (res_ct rfl _ _ _ _ (rcA (-O) 0 0 St.nil St.nil) _ _ rfl rfl (Blk.row x1 _) Tryd.underlying28 rfl (by kernel_rfl)) rfl ⟨rfl, below_row B1 (Nat.le_refl _) _⟩
/-- the two stamps, one behind the other -/
abbrev arr (p q : St) : Array Value := #[.int .u16 p.y, .int .u16 p.m, .int .u16 p.v, .int .u16 p.d, .int .u16 p.h, .int .u16 p.i, .int .u16 p.s, .int .u16 p.u, .int .u16 q.y, .int .u16 q.m, .int .u16 q.v, .int .u16 q.d, .int .u16 q.h, .int .u16 q.i, .int .u16 q.s, .int .u16 q.u]
abbrev two (a b : Int) : Array Value := #[.int .i64 a, .int .i64 b]
set_option maxRecDepth 100000 in
set_option maxHeartbeats 12800000 in
theorem fitted_main (A : Option Addr) (n c : Nat) (l : List Sp) (Y T : Int) (p q : St) (w : World) (hT : Tab w) (hs : Spans w w.heap.size A n l) (hm : n ≤ 3) (hn1 : 1 ≤ n)
    (h1 : ¬ (n = 1 ∧ (at_ l 0).d = false))
    (hoff : ∀ k, k < n → -86400 ≤ (at_ l k).o ∧ (at_ l k).o ≤ 86400) (hf : ∀ k, k < n → -62135596800 ≤ (at_ l k).f ∧ (at_ l k).f ≤ 253402300800)
    (hen : ∀ w, Tab w → Calls Tryd.prog 17 #[.int .i64 Y] w fun e w' => e = .returned (.tuple #[.agg (sA p), .agg (sA q), .int .i64 0]) ∧ Below w.heap.size w w')
    (hst : ∀ k, k + 1 < n → ccV l (k + 1) ≠ T → ∀ w, Tab w → Calls Tryd.prog 15 #[.int .i64 (ccV l (k + 1))] w fun e w' => e = .returned (.tuple #[.agg (sA (fsS (ccV l (k + 1)))), .int .i64 0]) ∧ Below w.heap.size w w')
    (P : Nat → St) (Q : Nat → St) (S : Nat → St)
    (hP0 : P 0 = if 0 < lastO true l 0 then p else q) (hQ0 : Q 0 = if 0 ≤ lastO false l 0 then p else q)
    (hS : ∀ k, S k = if ccV l (k + 1) = T then q else fsS (ccV l (k + 1)))
    (hP : ∀ k, P (k + 1) = if (at_ l (k + 1)).d = false then S k else P k) (hQ : ∀ k, Q (k + 1) = if (at_ l (k + 1)).d = true then S k else Q k)
    (mk : Value) (hmk : ∀ w, Tab w → Calls Tryd.prog 78 #[.int .i64 (lastO false l 0), .int .i64 (lastO true l 0), .agg (sA (P (n - 1))), .agg (sA (Q (n - 1)))] w fun e w' => e = .returned (.tuple #[mk, .int .i64 0]) ∧ Below w.heap.size w w')
    (mkA : Array Value) (hmkA : mk = .agg mkA) (hms : mkA.size = 19) (hm1 : mkA.all (·.oneCell') = true) :
    Calls Tryd.prog 43 #[.slice A n c, .int .i64 Y, .int .i64 T] w fun e w' => e = .returned (.tuple #[.agg mkA, .int .i64 0]) ∧ Below w.heap.size w w' := by
  subst hmkA
  have hln := hs.1
  have HF := Lib.hid hf; have HL := Lib.hid hln; have HOF := Lib.hid hoff; have HST := Lib.hid hst; have HP0 := Lib.hid hP0; have HQ0 := Lib.hid hQ0; have HS := Lib.hid hS; have HP := Lib.hid hP; have HQ := Lib.hid hQ; have HMS := Lib.hid hms; have HM1 := Lib.hid hm1
  clear hf hln hoff hst hP0 hQ0 hS hP hQ hms hm1
  have i0 := Inv.start hT
  have i1 := i0.alloc (.cells z19 28)
  have x1 := Blk.new w 28 z19
  have hsA := Lib.hid (fun (W : World) (h : Below w.heap.size w W) => hs.below h)
  have hcase : ((n : Int) == 1) = false ∨ (((n : Int) == 1) = true ∧ (at_ l 0).d = true) := by
    by_cases e : n = 1
    · right; refine ⟨by simp [e], ?_⟩
      cases hd : (at_ l 0).d with
      | true => rfl
      | false => exact absurd ⟨e, hd⟩ h1
    · left; simp; omega
  have hm' : (n : Int) ≤ 3 := by omega
  have hn1' : 1 ≤ (n : Int) := by omega
  obtain ⟨ad, rfl, r0⟩ := (hs.below i1.2).row (k := 0) (by omega)
  obtain ⟨g10, g11, g12, g13, g14⟩ := SpAt.of r0
  rw [Nat.zero_mul, add_zero] at g10 g11 g12 g13 g14
  have gd : (w.alloc (.cells z19 28)).cell? (ad.add 2) = some (.bool (at_ l 0).d) := g12
  have ge : (w.alloc (.cells z19 28)).cell? ⟨ad.block, ad.off + 2, none⟩ = some (.bool (at_ l 0).d) := g14
  clear g10 g11 g12 g13 g14 r0 h1
  unfold z19 at x1 i1 gd ge
  have hgo : ∀ (Q' : Exit → Act → World → Prop), True := fun _ => trivial
  go_enter Tryd.func43, Tryd.ntmps43
  go_upto_region 1 with fail
  go_cut [27] (fun e_ wx => e_ = .bool false ∧ wx = w.alloc (.cells #[.int .i32 0, .int .i32 0, .int .i32 0, .int .u16 0, .int .u16 0, .int .u16 0, .int .u16 0, .int .u16 0, .int .u16 0, .int .u16 0, .int .u16 0, .int .u16 0, .int .u16 0, .int .u16 0, .int .u16 0, .int .u16 0, .int .u16 0, .int .u16 0, .int .u16 0] 28))
  case first =>
    rcases hcase with hc | ⟨hc, hd0⟩
    · go_wp2_with fail
      go_meet
      exact ⟨rfl, rfl⟩
    · rw [hd0] at gd ge
      go_wp2_with fail
      go_meet
      exact ⟨rfl, rfl⟩
  case rest =>
    obtain ⟨rfl, rfl⟩ := hcut
    go_wp2_with fail
    refine (hen _ i1.1).mono ?_; rintro e w1 ⟨rfl, hb1⟩
    have i2 := i1.call hb1
    have x2 := x1.below hb1 x1.lt
    have zl2 : w.heap.size < w1.heap.size := x2.lt
    have i3 := (i2.alloc (.cells #[.int .u16 0, .int .u16 0, .int .u16 0, .int .u16 0, .int .u16 0, .int .u16 0, .int .u16 0, .int .u16 0] 26)).alloc (.cells #[.int .u16 0, .int .u16 0, .int .u16 0, .int .u16 0, .int .u16 0, .int .u16 0, .int .u16 0, .int .u16 0] 26)
    have x3 := (x2.alloc (.cells #[.int .u16 0, .int .u16 0, .int .u16 0, .int .u16 0, .int .u16 0, .int .u16 0, .int .u16 0, .int .u16 0] 26)).alloc (.cells #[.int .u16 0, .int .u16 0, .int .u16 0, .int .u16 0, .int .u16 0, .int .u16 0, .int .u16 0, .int .u16 0] 26)
    have a3 := (Blk.new w1 26 #[.int .u16 0, .int .u16 0, .int .u16 0, .int .u16 0, .int .u16 0, .int .u16 0, .int .u16 0, .int .u16 0]).alloc (.cells #[.int .u16 0, .int .u16 0, .int .u16 0, .int .u16 0, .int .u16 0, .int .u16 0, .int .u16 0, .int .u16 0] 26)
    have b3 : Blk ((w1.alloc (.cells #[.int .u16 0, .int .u16 0, .int .u16 0, .int .u16 0, .int .u16 0, .int .u16 0, .int .u16 0, .int .u16 0] 26)).alloc (.cells #[.int .u16 0, .int .u16 0, .int .u16 0, .int .u16 0, .int .u16 0, .int .u16 0, .int .u16 0, .int .u16 0] 26)) (w1.heap.size + 1) 26 #[.int .u16 0, .int .u16 0, .int .u16 0, .int .u16 0, .int .u16 0, .int .u16 0, .int .u16 0, .int .u16 0] := blk_at _ _ _ (sz1 w1 _ rfl)
    have a4 := Blk.row a3 #[.int .u16 p.y, .int .u16 p.m, .int .u16 p.v, .int .u16 p.d, .int .u16 p.h, .int .u16 p.i, .int .u16 p.s, .int .u16 p.u]
    have b4 := Blk.rowFar b3 (show w1.heap.size + 1 ≠ w1.heap.size by omega) #[.int .u16 p.y, .int .u16 p.m, .int .u16 p.v, .int .u16 p.d, .int .u16 p.h, .int .u16 p.i, .int .u16 p.s, .int .u16 p.u]
    have x4 := Blk.rowFar x3 (show w.heap.size ≠ w1.heap.size by omega) #[.int .u16 p.y, .int .u16 p.m, .int .u16 p.v, .int .u16 p.d, .int .u16 p.h, .int .u16 p.i, .int .u16 p.s, .int .u16 p.u]
    have a5 := Blk.rowFar a4 (show w1.heap.size ≠ w1.heap.size + 1 by omega) #[.int .u16 q.y, .int .u16 q.m, .int .u16 q.v, .int .u16 q.d, .int .u16 q.h, .int .u16 q.i, .int .u16 q.s, .int .u16 q.u]
    have b5 := Blk.row b4 #[.int .u16 q.y, .int .u16 q.m, .int .u16 q.v, .int .u16 q.d, .int .u16 q.h, .int .u16 q.i, .int .u16 q.s, .int .u16 q.u]
    have x5 := Blk.rowFar x4 (show w.heap.size ≠ w1.heap.size + 1 by omega) #[.int .u16 q.y, .int .u16 q.m, .int .u16 q.v, .int .u16 q.d, .int .u16 q.h, .int .u16 q.i, .int .u16 q.s, .int .u16 q.u]
    have i5 : Inv w ((((w1.alloc (.cells #[.int .u16 0, .int .u16 0, .int .u16 0, .int .u16 0, .int .u16 0, .int .u16 0, .int .u16 0, .int .u16 0] 26)).alloc (.cells #[.int .u16 0, .int .u16 0, .int .u16 0, .int .u16 0, .int .u16 0, .int .u16 0, .int .u16 0, .int .u16 0] 26)).setRow w1.heap.size #[.int .u16 p.y, .int .u16 p.m, .int .u16 p.v, .int .u16 p.d, .int .u16 p.h, .int .u16 p.i, .int .u16 p.s, .int .u16 p.u]).setRow (w1.heap.size + 1) #[.int .u16 q.y, .int .u16 q.m, .int .u16 q.v, .int .u16 q.d, .int .u16 q.h, .int .u16 q.i, .int .u16 q.s, .int .u16 q.u]) := inv_of hT (below_row (below_row i3.2 (by omega) _) (by omega) _)
    clear hen hb1 i2 x2 i3 x3 a4 x4 i1 x1 i0 gd ge
    go_upto_region 6 with (first
      | refine wpList_store_g rfl 26 _ _ rfl rfl _ 0 #[.int .u16 p.y, .int .u16 p.m, .int .u16 p.v, .int .u16 p.d, .int .u16 p.h, .int .u16 p.i, .int .u16 p.s, .int .u16 p.u] #[.int .u16 p.y, .int .u16 p.m, .int .u16 p.v, .int .u16 p.d, .int .u16 p.h, .int .u16 p.i, .int .u16 p.s, .int .u16 p.u] rfl rfl _ _ a3 (by show 0 + 8 ≤ 8; decide) (by kernel_rfl) (by kernel_rfl) (by kernel_rfl) ?_
      | refine wpList_store_g rfl 26 _ _ rfl rfl _ 0 #[.int .u16 q.y, .int .u16 q.m, .int .u16 q.v, .int .u16 q.d, .int .u16 q.h, .int .u16 q.i, .int .u16 q.s, .int .u16 q.u] #[.int .u16 q.y, .int .u16 q.m, .int .u16 q.v, .int .u16 q.d, .int .u16 q.h, .int .u16 q.i, .int .u16 q.s, .int .u16 q.u] rfl rfl _ _ b4 (by show 0 + 8 ≤ 8; decide) (by kernel_rfl) (by kernel_rfl) (by kernel_rfl) ?_)
    clear a3 b3 b4
    generalize ((((w1.alloc (.cells #[.int .u16 0, .int .u16 0, .int .u16 0, .int .u16 0, .int .u16 0, .int .u16 0, .int .u16 0, .int .u16 0] 26)).alloc (.cells #[.int .u16 0, .int .u16 0, .int .u16 0, .int .u16 0, .int .u16 0, .int .u16 0, .int .u16 0, .int .u16 0] 26)).setRow w1.heap.size #[.int .u16 p.y, .int .u16 p.m, .int .u16 p.v, .int .u16 p.d, .int .u16 p.h, .int .u16 p.i, .int .u16 p.s, .int .u16 p.u]).setRow (w1.heap.size + 1) #[.int .u16 q.y, .int .u16 q.m, .int .u16 q.v, .int .u16 q.d, .int .u16 q.h, .int .u16 q.i, .int .u16 q.s, .int .u16 q.u]) = W5 at *
    have zl5 : w1.heap.size + 1 < W5.heap.size := b5.lt
    generalize w1.heap.size = ga at *
    have i6 := i5.alloc (.cells #[.int .i64 0, .int .i64 0] 97)
    have a6 := a5.alloc (.cells #[.int .i64 0, .int .i64 0] 97)
    have b6 := b5.alloc (.cells #[.int .i64 0, .int .i64 0] 97)
    have x6 := x5.alloc (.cells #[.int .i64 0, .int .i64 0] 97)
    have o6 := Blk.new W5 97 #[.int .i64 0, .int .i64 0]
    clear i5 a5 b5 x5
    go_wp2_with fail
    generalize W5.heap.size = go at *
    generalize W5.alloc (.cells #[.int .i64 0, .int .i64 0] 97) = W6 at *
    go_loopw [47] (fun i wr => ∃ k : Nat, i = .int .i64 k ∧ k ≤ n ∧ Inv w wr ∧ Blk wr w.heap.size 28 #[.int .i32 0, .int .i32 0, .int .i32 0, .int .u16 0, .int .u16 0, .int .u16 0, .int .u16 0, .int .u16 0, .int .u16 0, .int .u16 0, .int .u16 0, .int .u16 0, .int .u16 0, .int .u16 0, .int .u16 0, .int .u16 0, .int .u16 0, .int .u16 0, .int .u16 0] ∧ Blk wr ga 26 #[.int .u16 p.y, .int .u16 p.m, .int .u16 p.v, .int .u16 p.d, .int .u16 p.h, .int .u16 p.i, .int .u16 p.s, .int .u16 p.u] ∧ Blk wr (ga + 1) 26 #[.int .u16 q.y, .int .u16 q.m, .int .u16 q.v, .int .u16 q.d, .int .u16 q.h, .int .u16 q.i, .int .u16 q.s, .int .u16 q.u] ∧ Blk wr go 97 (two (lastO false (l.take k) 0) (lastO true (l.take k) 0))) (fun i _ => n - (intOf i).toNat)
    case atStart => exact ⟨0, rfl, Nat.zero_le _, i6, x6, a6, b6, o6⟩
    case round =>
      clear i6 x6 a6 b6 o6 W5 W6
      obtain ⟨k, rfl, hk, hi, hx, ha, hb, ho⟩ := hrel
      by_cases hlt : k < n
      · have hlt' : (k : Int) < (n : Int) := by omega
        obtain ⟨ad', e, r1⟩ := (hsA.out _ hi.2).row hlt
        obtain rfl : ad = ad' := Option.some.inj e
        have hl0 := lastO_take false (l := l) (k := k) (by rw [HL.out]; exact hlt) 0
        have hl1 := lastO_take true (l := l) (k := k) (by rw [HL.out]; exact hlt) 0
        obtain ⟨a, eA⟩ : ∃ a, at_ l k = a := ⟨_, rfl⟩
        rw [eA] at r1 hl0 hl1
        have HL0 := Lib.hid hl0; have HL1 := Lib.hid hl1
        clear hl0 hl1 eA
        generalize lastO false (l.take k) 0 = s0 at *
        generalize lastO true (l.take k) 0 = s1 at *
        have hkd := fun w' => kind_any a w'
        have zlo : go < wr.heap.size := ho.lt
        go_upto_region 10 with (refine wpList_at_g rfl 40 _ rfl w.heap.size _ a.A rfl _ r1 Tryd.underlying40 rfl (by kernel_rfl) ?_)
        have hz := Blk.new wr 40 #[.int .i64 a.f, .int .i64 a.o, .bool a.d]
        have hi2 := hi.alloc (.cells #[.int .i64 a.f, .int .i64 a.o, .bool a.d] 40)
        have hx2 := hx.alloc (.cells #[.int .i64 a.f, .int .i64 a.o, .bool a.d] 40)
        have ha2 := ha.alloc (.cells #[.int .i64 a.f, .int .i64 a.o, .bool a.d] 40)
        have hb2 := hb.alloc (.cells #[.int .i64 a.f, .int .i64 a.o, .bool a.d] 40)
        have ho2 := ho.alloc (.cells #[.int .i64 a.f, .int .i64 a.o, .bool a.d] 40)
        clear hi hx ha hb ho r1
        have zz : go ≠ wr.heap.size := by omega
        generalize wr.alloc (.cells #[.int .i64 a.f, .int .i64 a.o, .bool a.d] 40) = W at *
        generalize wr.heap.size = gz at *
        replace hz : Blk W.drew _ _ _ := hz; replace hx2 : Blk W.drew _ _ _ := hx2; replace ha2 : Blk W.drew _ _ _ := ha2; replace hb2 : Blk W.drew _ _ _ := hb2; replace ho2 : Blk W.drew _ _ _ := ho2; replace hi2 := hi2.drew
        have c0 : W.cell? ⟨gz, 0, none⟩ = some (.int .i64 a.f) := hz.cell 0
        have c1 : W.cell? ⟨gz, 1, none⟩ = some (.int .i64 a.o) := hz.cell 1
        have c2 : W.cell? ⟨gz, 2, none⟩ = some (.bool a.d) := hz.cell 2
        have d0 : W.cell? ⟨go, 0, none⟩ = some (.int .i64 s0) := ho2.cell 0
        have d1 : W.cell? ⟨go, 1, none⟩ = some (.int .i64 s1) := ho2.cell 1
        have f0 := ho2.frozen 0
        have f1 := ho2.frozen 1
        obtain ⟨af, ao, adb⟩ := a
        simp only at c0 c1 c2 hkd HL0 HL1 hz
        cases adb
        · simp only [if_neg (show ¬ (false = true) by decide)] at hkd
          go_region_with ((go_at_call 77; refine (hkd _).mono ?_; rintro e wn ⟨rfl, hbn⟩; replace hx2 := hx2.below hbn hx2.lt; replace ha2 := ha2.below hbn ha2.lt; replace hb2 := hb2.below hbn hb2.lt; replace ho2 := ho2.below hbn ho2.lt; replace hz := hz.below hbn hz.lt; replace hi2 := hi2.call hbn; clear c0 c1 c2 d0 d1 f0 f1; have c0 := hz.cell 0; have c1 := hz.cell 1; have c2 := hz.cell 2; have d0 := ho2.cell 0; have d1 := ho2.cell 1; simp at c0 c1 c2 d0 d1; have f0 := ho2.frozen 0; have f1 := ho2.frozen 1; clear hbn))
          all_goals
            go_wp2_with fail
            go_roundw
            case rel =>
              refine ⟨k + 1, by go_num, by omega, ?_, ?_, ?_, ?_, ?_⟩
              · first | exact inv_of hT (hi2.2.setCell (p := ⟨go, 0, none⟩) (by show w.heap.size ≤ go; omega) _) | exact (inv_of hT (hi2.2.setCell (p := ⟨go, 0, none⟩) (by show w.heap.size ≤ go; omega) _)).drew
              · exact hx2.far (p := ⟨go, 0, none⟩) (by show w.heap.size ≠ go; omega) _
              · exact ha2.far (p := ⟨go, 0, none⟩) (by show ga ≠ go; omega) _
              · exact hb2.far (p := ⟨go, 0, none⟩) (by show ga + 1 ≠ go; omega) _
              · have e0 := HL0.out; have e1 := HL1.out; simp at e0 e1; rw [e0, e1]; exact ho2.set_ 0 (.int .i64 ao)
            case measure => simp [intOf]; omega
        · simp only [if_true] at hkd
          go_region_with ((go_at_call 77; refine (hkd _).mono ?_; rintro e wn ⟨rfl, hbn⟩; replace hx2 := hx2.below hbn hx2.lt; replace ha2 := ha2.below hbn ha2.lt; replace hb2 := hb2.below hbn hb2.lt; replace ho2 := ho2.below hbn ho2.lt; replace hz := hz.below hbn hz.lt; replace hi2 := hi2.call hbn; clear c0 c1 c2 d0 d1 f0 f1; have c0 := hz.cell 0; have c1 := hz.cell 1; have c2 := hz.cell 2; have d0 := ho2.cell 0; have d1 := ho2.cell 1; simp at c0 c1 c2 d0 d1; have f0 := ho2.frozen 0; have f1 := ho2.frozen 1; clear hbn))
          all_goals
            go_wp2_with fail
            go_roundw
            case rel =>
              refine ⟨k + 1, by go_num, by omega, ?_, ?_, ?_, ?_, ?_⟩
              · first | exact inv_of hT (hi2.2.setCell (p := ⟨go, 1, none⟩) (by show w.heap.size ≤ go; omega) _) | exact (inv_of hT (hi2.2.setCell (p := ⟨go, 1, none⟩) (by show w.heap.size ≤ go; omega) _)).drew
              · exact hx2.far (p := ⟨go, 1, none⟩) (by show w.heap.size ≠ go; omega) _
              · exact ha2.far (p := ⟨go, 1, none⟩) (by show ga ≠ go; omega) _
              · exact hb2.far (p := ⟨go, 1, none⟩) (by show ga + 1 ≠ go; omega) _
              · have e0 := HL0.out; have e1 := HL1.out; simp at e0 e1; rw [e0, e1]; exact ho2.set_ 1 (.int .i64 ao)
            case measure => simp [intOf]; omega
      · obtain rfl : n = k := by omega
        have hlt' : ¬ (n : Int) < (n : Int) := by omega
        rw [List.take_of_length_le (show l.length ≤ n by rw [HL.out]; exact Nat.le_refl _)] at ho
        obtain ⟨s0, e0⟩ : ∃ s0, lastO false l 0 = s0 := ⟨_, rfl⟩
        obtain ⟨s1, e1⟩ : ∃ s1, lastO true l 0 = s1 := ⟨_, rfl⟩
        have sb0 := lastO_bd false l 0 (fun t ht => by obtain ⟨i, hi, rfl⟩ := List.getElem_of_mem ht; rw [at_eq hi]; exact HOF.out i (by rw [HL.out] at hi; exact hi)) (by decide)
        have sb1 := lastO_bd true l 0 (fun t ht => by obtain ⟨i, hi, rfl⟩ := List.getElem_of_mem ht; rw [at_eq hi]; exact HOF.out i (by rw [HL.out] at hi; exact hi)) (by decide)
        rw [e0] at ho hmk sb0 HQ0
        rw [e1] at ho hmk sb1 HP0
        have E0 := Lib.hid e0; have E1 := Lib.hid e1
        clear e0 e1
        obtain ⟨wa, rfl⟩ : ∃ wa : World, wa = wr := ⟨_, rfl⟩
        have zla : go < wa.heap.size := ho.lt
        have i7 := hi.alloc (.cells #[.int .u16 0, .int .u16 0, .int .u16 0, .int .u16 0, .int .u16 0, .int .u16 0, .int .u16 0, .int .u16 0, .int .u16 0, .int .u16 0, .int .u16 0, .int .u16 0, .int .u16 0, .int .u16 0, .int .u16 0, .int .u16 0] 121)
        have x7 := hx.alloc (.cells #[.int .u16 0, .int .u16 0, .int .u16 0, .int .u16 0, .int .u16 0, .int .u16 0, .int .u16 0, .int .u16 0, .int .u16 0, .int .u16 0, .int .u16 0, .int .u16 0, .int .u16 0, .int .u16 0, .int .u16 0, .int .u16 0] 121)
        have a7 := ha.alloc (.cells #[.int .u16 0, .int .u16 0, .int .u16 0, .int .u16 0, .int .u16 0, .int .u16 0, .int .u16 0, .int .u16 0, .int .u16 0, .int .u16 0, .int .u16 0, .int .u16 0, .int .u16 0, .int .u16 0, .int .u16 0, .int .u16 0] 121)
        have b7 := hb.alloc (.cells #[.int .u16 0, .int .u16 0, .int .u16 0, .int .u16 0, .int .u16 0, .int .u16 0, .int .u16 0, .int .u16 0, .int .u16 0, .int .u16 0, .int .u16 0, .int .u16 0, .int .u16 0, .int .u16 0, .int .u16 0, .int .u16 0] 121)
        have o7 := ho.alloc (.cells #[.int .u16 0, .int .u16 0, .int .u16 0, .int .u16 0, .int .u16 0, .int .u16 0, .int .u16 0, .int .u16 0, .int .u16 0, .int .u16 0, .int .u16 0, .int .u16 0, .int .u16 0, .int .u16 0, .int .u16 0, .int .u16 0] 121)
        have r7 := Blk.new wa 121 #[.int .u16 0, .int .u16 0, .int .u16 0, .int .u16 0, .int .u16 0, .int .u16 0, .int .u16 0, .int .u16 0, .int .u16 0, .int .u16 0, .int .u16 0, .int .u16 0, .int .u16 0, .int .u16 0, .int .u16 0, .int .u16 0]
        have i8 : Inv w ((wa.alloc (.cells #[.int .u16 0, .int .u16 0, .int .u16 0, .int .u16 0, .int .u16 0, .int .u16 0, .int .u16 0, .int .u16 0, .int .u16 0, .int .u16 0, .int .u16 0, .int .u16 0, .int .u16 0, .int .u16 0, .int .u16 0, .int .u16 0] 121)).setRow wa.heap.size (arr q q)) := inv_of hT (below_row i7.2 (by omega) _)
        have x8 := Blk.rowFar x7 (show w.heap.size ≠ wa.heap.size by omega) (arr q q)
        have a8 := Blk.rowFar a7 (show ga ≠ wa.heap.size by omega) (arr q q)
        have b8 := Blk.rowFar b7 (show ga + 1 ≠ wa.heap.size by omega) (arr q q)
        have o8 := Blk.rowFar o7 (show go ≠ wa.heap.size by omega) (arr q q)
        have r8 := Blk.row r7 (arr q q)
        clear i7 x7 a7 b7 o7
        go_upto_region 13 with (first | refine wpList_row_g rfl 26 _ rfl _ rfl _ _ _ _ hb Tryd.underlying26 rfl (by kernel_rfl) ?_ | refine wpList_store_g rfl 121 _ _ rfl rfl _ 0 (arr q q) (arr q q) rfl rfl _ _ r7 (by show 0 + 16 ≤ 16; decide) (by kernel_rfl) (by kernel_rfl) (by kernel_rfl) ?_)
        have zr : go < wa.heap.size := zla
        generalize (wa.alloc (.cells #[.int .u16 0, .int .u16 0, .int .u16 0, .int .u16 0, .int .u16 0, .int .u16 0, .int .u16 0, .int .u16 0, .int .u16 0, .int .u16 0, .int .u16 0, .int .u16 0, .int .u16 0, .int .u16 0, .int .u16 0, .int .u16 0] 121)).setRow wa.heap.size (arr q q) = W8 at *
        generalize wa.heap.size = gr at *
        clear hi hx ha hb ho r7
        have d0 : W8.cell? ⟨go, 0, none⟩ = some (.int .i64 s0) := o8.cell 0
        go_upto_if 62 with fail
        go_cut [63] (fun e_ wx => Inv w wx ∧ Blk wx w.heap.size 28 #[.int .i32 0, .int .i32 0, .int .i32 0, .int .u16 0, .int .u16 0, .int .u16 0, .int .u16 0, .int .u16 0, .int .u16 0, .int .u16 0, .int .u16 0, .int .u16 0, .int .u16 0, .int .u16 0, .int .u16 0, .int .u16 0, .int .u16 0, .int .u16 0, .int .u16 0] ∧ Blk wx ga 26 #[.int .u16 p.y, .int .u16 p.m, .int .u16 p.v, .int .u16 p.d, .int .u16 p.h, .int .u16 p.i, .int .u16 p.s, .int .u16 p.u] ∧ Blk wx (ga + 1) 26 #[.int .u16 q.y, .int .u16 q.m, .int .u16 q.v, .int .u16 q.d, .int .u16 q.h, .int .u16 q.i, .int .u16 q.s, .int .u16 q.u] ∧ Blk wx go 97 (two s0 s1) ∧ Blk wx gr 121 (arr q (Q 0)))
        case first =>
          by_cases hz : 0 ≤ s0
          · have eQ := HQ0.out
            rw [if_pos hz] at eQ
            have EQ := Lib.hid eQ; clear eQ
            go_wp2_with (first | refine wpList_row_g rfl 26 _ rfl _ rfl _ _ _ _ a8 Tryd.underlying26 rfl (by kernel_rfl) ?_ | refine wpList_store_g rfl 26 _ _ rfl rfl _ 8 #[.int .u16 p.y, .int .u16 p.m, .int .u16 p.v, .int .u16 p.d, .int .u16 p.h, .int .u16 p.i, .int .u16 p.s, .int .u16 p.u] (arr q p) rfl rfl _ _ r8 (by show 8 + 8 ≤ 16; decide) (by kernel_rfl) (by kernel_rfl) (by kernel_rfl) ?_)
            go_meet
            rw [EQ.out]
            exact ⟨inv_of hT (below_row i8.2 (show w.heap.size ≤ gr by omega) _), Blk.rowFar x8 (show w.heap.size ≠ gr by omega) _, Blk.rowFar a8 (show ga ≠ gr by omega) _, Blk.rowFar b8 (show ga + 1 ≠ gr by omega) _, Blk.rowFar o8 (show go ≠ gr by omega) _, Blk.row r8 _⟩
          · have eQ := HQ0.out
            rw [if_neg hz] at eQ
            have EQ := Lib.hid eQ; clear eQ
            go_wp2_with fail
            go_meet
            rw [EQ.out]
            exact ⟨i8, x8, a8, b8, o8, r8⟩
        case rest =>
          clear d0 i8 x8 a8 b8 o8 r8 W8
          obtain ⟨i9, x9, a9, b9, o9, r9⟩ := hcut
          go_upto_region 15 with fail
          have d1 := o9.cell 1
          simp at d1
          go_upto_if 67 with fail
          go_cut [68] (fun e_ wy => Inv w wy ∧ Blk wy w.heap.size 28 #[.int .i32 0, .int .i32 0, .int .i32 0, .int .u16 0, .int .u16 0, .int .u16 0, .int .u16 0, .int .u16 0, .int .u16 0, .int .u16 0, .int .u16 0, .int .u16 0, .int .u16 0, .int .u16 0, .int .u16 0, .int .u16 0, .int .u16 0, .int .u16 0, .int .u16 0] ∧ Blk wy ga 26 #[.int .u16 p.y, .int .u16 p.m, .int .u16 p.v, .int .u16 p.d, .int .u16 p.h, .int .u16 p.i, .int .u16 p.s, .int .u16 p.u] ∧ Blk wy (ga + 1) 26 #[.int .u16 q.y, .int .u16 q.m, .int .u16 q.v, .int .u16 q.d, .int .u16 q.h, .int .u16 q.i, .int .u16 q.s, .int .u16 q.u] ∧ Blk wy go 97 (two s0 s1) ∧ Blk wy gr 121 (arr (P 0) (Q 0)))
          case first =>
            by_cases hz : 0 < s1
            · have eQ := HP0.out
              rw [if_pos hz] at eQ
              have EQ := Lib.hid eQ; clear eQ
              go_wp2_with (first | refine wpList_row_g rfl 26 _ rfl _ rfl _ _ _ _ a9 Tryd.underlying26 rfl (by kernel_rfl) ?_ | refine wpList_store_g rfl 26 _ _ rfl rfl _ 0 #[.int .u16 p.y, .int .u16 p.m, .int .u16 p.v, .int .u16 p.d, .int .u16 p.h, .int .u16 p.i, .int .u16 p.s, .int .u16 p.u] (arr p (Q 0)) rfl rfl _ _ r9 (by show 0 + 8 ≤ 16; decide) (by kernel_rfl) (by kernel_rfl) (by kernel_rfl) ?_)
              go_meet
              rw [EQ.out]
              exact ⟨inv_of hT (below_row i9.2 (show w.heap.size ≤ gr by omega) _), Blk.rowFar x9 (show w.heap.size ≠ gr by omega) _, Blk.rowFar a9 (show ga ≠ gr by omega) _, Blk.rowFar b9 (show ga + 1 ≠ gr by omega) _, Blk.rowFar o9 (show go ≠ gr by omega) _, Blk.row r9 _⟩
            · have eQ := HP0.out
              rw [if_neg hz] at eQ
              have EQ := Lib.hid eQ; clear eQ
              go_wp2_with fail
              go_meet
              rw [EQ.out]
              exact ⟨i9, x9, a9, b9, o9, r9⟩
          case rest =>
            clear d1 i9 x9 a9 b9 o9 r9
            obtain ⟨iA, xA, aA, bA, oA, rA⟩ := hcut
            go_wp2_with fail
            go_loopw [15] (fun i wr => ∃ k : Nat, i = .int .i64 (k + 1) ∧ k + 1 ≤ n ∧ Inv w wr ∧ Blk wr w.heap.size 28 #[.int .i32 0, .int .i32 0, .int .i32 0, .int .u16 0, .int .u16 0, .int .u16 0, .int .u16 0, .int .u16 0, .int .u16 0, .int .u16 0, .int .u16 0, .int .u16 0, .int .u16 0, .int .u16 0, .int .u16 0, .int .u16 0, .int .u16 0, .int .u16 0, .int .u16 0] ∧ Blk wr ga 26 #[.int .u16 p.y, .int .u16 p.m, .int .u16 p.v, .int .u16 p.d, .int .u16 p.h, .int .u16 p.i, .int .u16 p.s, .int .u16 p.u] ∧ Blk wr (ga + 1) 26 #[.int .u16 q.y, .int .u16 q.m, .int .u16 q.v, .int .u16 q.d, .int .u16 q.h, .int .u16 q.i, .int .u16 q.s, .int .u16 q.u] ∧ Blk wr go 97 (two s0 s1) ∧ Blk wr gr 121 (arr (P k) (Q k))) (fun i _ => n - (intOf i).toNat)
            case atStart => exact ⟨0, rfl, hn1, iA, xA, aA, bA, oA, rA⟩
            case round =>
              clear iA xA aA bA oA rA
              obtain ⟨k, rfl, hk, hi, hx, ha, hb, ho, hr⟩ := hrel
              by_cases hlt : k + 1 < n
              · skip
                have hlt' : (k : Int) + 1 < (n : Int) := by omega
                obtain ⟨ad1, e1, r1⟩ := (hsA.out _ hi.2).row (k := k) (by omega)
                obtain ⟨ad2, e2, r2⟩ := (hsA.out _ hi.2).row hlt
                obtain rfl : ad = ad1 := Option.some.inj e1
                obtain rfl : ad = ad2 := Option.some.inj e2
                have hfb := HF.out (k + 1) hlt
                have hob := HOF.out k (by omega)
                have hcv := (show ccV l (k + 1) = (at_ l (k + 1)).f + (at_ l k).o from rfl)
                obtain ⟨a, eA⟩ : ∃ a, at_ l k = a := ⟨_, rfl⟩
                obtain ⟨b, eB⟩ : ∃ b, at_ l (k + 1) = b := ⟨_, rfl⟩
                rw [eA] at r1 hob hcv; rw [eB] at r2 hfb hcv
                have EB := Lib.hid eB
                have HCV := Lib.hid hcv
                clear eA eB hcv e1 e2
                obtain ⟨q10, q11, q12, q13, q14⟩ := SpAt.of r1
                obtain ⟨q20, q21, q22, q23, q24⟩ := SpAt.of r2
                have hsub : IntKind.i64.wrap (k : Int) = (k : Int) := by simp [IntKind.wrap, IntKind.bits, IntKind.signed]; omega
                have hsum : IntKind.i64.wrap (b.f + a.o) = b.f + a.o := by simp [IntKind.wrap, IntKind.bits, IntKind.signed]; omega
                have i1 : (0 : Int) ≤ (k : Int) + 1 := by omega
                have i2 : ((k : Int) + 1).toNat = k + 1 := by omega
                have i3 : (0 : Int) ≤ (k : Int) := by omega
                have i4 : (k : Int) < (n : Int) := by omega
                go_wp2_with fail
                go_quiet ((go_at_call 0))
                clear q10 q11 q12 q13 q14 q20 q21 q22 q23 q24 hsub hsum
                have hi2 : Inv w (wr.drewN nq) := inv_of hT (bdN hi.2 nq)
                have hx2 := hx.drewN nq; have ha2 := ha.drewN nq; have hb2 := hb.drewN nq; have ho2 := ho.drewN nq; have hr2 := hr.drewN nq
                have hw2 := r2.below (bdN (Below.refl w.heap.size wr) nq)
                clear hi hx ha hb ho hr r1 r2
                generalize wr.drewN nq = W2 at *
                have hi3 := hi2.alloc (.cells #[.int .u16 q.y, .int .u16 q.m, .int .u16 q.v, .int .u16 q.d, .int .u16 q.h, .int .u16 q.i, .int .u16 q.s, .int .u16 q.u] 26); have hx3 := hx2.alloc (.cells #[.int .u16 q.y, .int .u16 q.m, .int .u16 q.v, .int .u16 q.d, .int .u16 q.h, .int .u16 q.i, .int .u16 q.s, .int .u16 q.u] 26); have ha3 := ha2.alloc (.cells #[.int .u16 q.y, .int .u16 q.m, .int .u16 q.v, .int .u16 q.d, .int .u16 q.h, .int .u16 q.i, .int .u16 q.s, .int .u16 q.u] 26); have hb3 := hb2.alloc (.cells #[.int .u16 q.y, .int .u16 q.m, .int .u16 q.v, .int .u16 q.d, .int .u16 q.h, .int .u16 q.i, .int .u16 q.s, .int .u16 q.u] 26); have ho3 := ho2.alloc (.cells #[.int .u16 q.y, .int .u16 q.m, .int .u16 q.v, .int .u16 q.d, .int .u16 q.h, .int .u16 q.i, .int .u16 q.s, .int .u16 q.u] 26); have hr3 := hr2.alloc (.cells #[.int .u16 q.y, .int .u16 q.m, .int .u16 q.v, .int .u16 q.d, .int .u16 q.h, .int .u16 q.i, .int .u16 q.s, .int .u16 q.u] 26)
                have hs3 := Blk.new W2 26 #[.int .u16 q.y, .int .u16 q.m, .int .u16 q.v, .int .u16 q.d, .int .u16 q.h, .int .u16 q.i, .int .u16 q.s, .int .u16 q.u]
                have hw3 := hw2.below ((Below.refl w.heap.size W2).alloc hi2.2.size (.cells #[.int .u16 q.y, .int .u16 q.m, .int .u16 q.v, .int .u16 q.d, .int .u16 q.h, .int .u16 q.i, .int .u16 q.s, .int .u16 q.u] 26))
                have zg : gr < W2.heap.size := hr2.lt
                by_cases hc : b.f + a.o = T
                · have hne : (b.f + a.o != T) = false := by simp [hc]
                  have SK := Lib.hid (show S k = q by rw [HS.out k, HCV.out, if_pos hc])
                  clear hc
                  go_upto_region 26 with (first | refine wpList_row_g rfl 26 _ rfl _ rfl _ _ _ _ hb2 Tryd.underlying26 rfl (by kernel_rfl) ?_ | refine wpList_store_new rfl 26 _ _ rfl rfl W2.heap.size #[.int .u16 q.y, .int .u16 q.m, .int .u16 q.v, .int .u16 q.d, .int .u16 q.h, .int .u16 q.i, .int .u16 q.s, .int .u16 q.u] rfl rfl _ #[.int .u16 0, .int .u16 0, .int .u16 0, .int .u16 0, .int .u16 0, .int .u16 0, .int .u16 0, .int .u16 0] W2 rfl rfl rfl (by kernel_rfl) (by kernel_rfl) ?_)
                  clear hi2 hx2 ha2 hb2 ho2 hr2 hw2
                  generalize W2.alloc (.cells #[.int .u16 q.y, .int .u16 q.m, .int .u16 q.v, .int .u16 q.d, .int .u16 q.h, .int .u16 q.i, .int .u16 q.s, .int .u16 q.u] 26) = V at *
                  generalize W2.heap.size = gs at *
                  obtain ⟨sk, hsk⟩ : ∃ sk : St, q = sk := ⟨_, rfl⟩
                  have SK := Lib.hid (show S k = sk by rw [SK.out, hsk])
                  have hi4 := hi3; have hx4 := hx3; have ha4 := ha3; have hb4 := hb3; have ho4 := ho3; have hr4 := hr3; have hrow := hw3
                  have hs4 : Blk V gs 26 #[.int .u16 sk.y, .int .u16 sk.m, .int .u16 sk.v, .int .u16 sk.d, .int .u16 sk.h, .int .u16 sk.i, .int .u16 sk.s, .int .u16 sk.u] := by rw [← hsk]; exact hs3
                  clear hi3 hx3 ha3 hb3 ho3 hr3 hs3 hw3 hsk hne
                  cases hbd : b.d with
                  | false =>
                    have PK := Lib.hid (show P (k + 1) = sk by rw [HP.out k, EB.out, hbd]; simp [SK.out])
                    have QK := Lib.hid (show Q (k + 1) = Q k by rw [HQ.out k, EB.out, hbd]; simp [SK.out])
                    have hkd := fun w' => kind_any b w'
                    rw [hbd] at hkd
                    have hrow : Row V w.heap.size (ad.add ((k + 1) * 3)) #[.int .i64 b.f, .int .i64 b.o, .bool false] := by rw [← hbd]; exact hrow
                    have hkd : ∀ w', Calls Tryd.prog 77 #[.agg #[.int .i64 b.f, .int .i64 b.o, .bool false]] w' fun e w'' => e = .returned (.int .i64 0) ∧ Below w'.heap.size w' w'' := fun w' => by have := hkd w'; unfold Sp.V Sp.A at this; rw [hbd] at this; exact this
                    clear hbd EB
                    have hrow : Row V w.heap.size (ad.add ((k + 1) * 3)) (Sp.A ⟨b.f, b.o, false⟩) := hrow
                    replace hx4 : Blk V.drew _ _ _ := hx4; replace ha4 : Blk V.drew _ _ _ := ha4; replace hb4 : Blk V.drew _ _ _ := hb4; replace ho4 : Blk V.drew _ _ _ := ho4; replace hr4 : Blk V.drew _ _ _ := hr4; replace hs4 : Blk V.drew _ _ _ := hs4; replace hi4 := hi4.drew
                    replace hrow : Row V.drew _ _ _ := hrow
                    have u0 := hs4.cell 0; have u1 := hs4.cell 1; have u2 := hs4.cell 2; have u3 := hs4.cell 3; have u4 := hs4.cell 4; have u5 := hs4.cell 5; have u6 := hs4.cell 6; have u7 := hs4.cell 7
                    have v0 := hr4.cell 0; have v1 := hr4.cell 1; have v2 := hr4.cell 2; have v3 := hr4.cell 3; have v4 := hr4.cell 4; have v5 := hr4.cell 5; have v6 := hr4.cell 6; have v7 := hr4.cell 7
                    simp at u0 v0 u1 v1 u2 v2 u3 v3 u4 v4 u5 v5 u6 v6 u7 v7
                    have f0 := hr4.frozen 0; have f1 := hr4.frozen 1; have f2 := hr4.frozen 2; have f3 := hr4.frozen 3; have f4 := hr4.frozen 4; have f5 := hr4.frozen 5; have f6 := hr4.frozen 6; have f7 := hr4.frozen 7
                    obtain ⟨q20, q21, q22, q23, q24⟩ := SpAt.of hrow
                    go_region_with ((go_at_call 77; refine (hkd _).mono ?_; rintro e wn ⟨rfl, hbn⟩; replace hx4 := hx4.below hbn hx4.lt; replace ha4 := ha4.below hbn ha4.lt; replace hb4 := hb4.below hbn hb4.lt; replace ho4 := ho4.below hbn ho4.lt; replace hr4 := hr4.below hbn hr4.lt; replace hs4 := hs4.below hbn hs4.lt; replace hrow := hrow.below (hbn.mono hi4.2.size); replace hi4 := hi4.call hbn; clear q20 q21 q22 q23 q24 u0 v0 f0 u1 v1 f1 u2 v2 f2 u3 v3 f3 u4 v4 f4 u5 v5 f5 u6 v6 f6 u7 v7 f7; have u0 := hs4.cell 0; have u1 := hs4.cell 1; have u2 := hs4.cell 2; have u3 := hs4.cell 3; have u4 := hs4.cell 4; have u5 := hs4.cell 5; have u6 := hs4.cell 6; have u7 := hs4.cell 7; have v0 := hr4.cell 0; have v1 := hr4.cell 1; have v2 := hr4.cell 2; have v3 := hr4.cell 3; have v4 := hr4.cell 4; have v5 := hr4.cell 5; have v6 := hr4.cell 6; have v7 := hr4.cell 7; simp at u0 v0 u1 v1 u2 v2 u3 v3 u4 v4 u5 v5 u6 v6 u7 v7; have f0 := hr4.frozen 0; have f1 := hr4.frozen 1; have f2 := hr4.frozen 2; have f3 := hr4.frozen 3; have f4 := hr4.frozen 4; have f5 := hr4.frozen 5; have f6 := hr4.frozen 6; have f7 := hr4.frozen 7; obtain ⟨q20, q21, q22, q23, q24⟩ := SpAt.of hrow; clear hbn))
                    all_goals
                      go_wp2_with fail
                      go_roundw
                      case rel =>
                        refine ⟨k + 1, by go_num, by omega, ?_, ?_, ?_, ?_, ?_, ?_⟩
                        · first | exact inv_of hT ((((((((hi4.2.setCell (p := ⟨gr, 0, none⟩) (by show w.heap.size ≤ gr; omega) (.int .u16 sk.y)).setCell (p := ⟨gr, 1, none⟩) (by show w.heap.size ≤ gr; omega) (.int .u16 sk.m)).setCell (p := ⟨gr, 2, none⟩) (by show w.heap.size ≤ gr; omega) (.int .u16 sk.v)).setCell (p := ⟨gr, 3, none⟩) (by show w.heap.size ≤ gr; omega) (.int .u16 sk.d)).setCell (p := ⟨gr, 4, none⟩) (by show w.heap.size ≤ gr; omega) (.int .u16 sk.h)).setCell (p := ⟨gr, 5, none⟩) (by show w.heap.size ≤ gr; omega) (.int .u16 sk.i)).setCell (p := ⟨gr, 6, none⟩) (by show w.heap.size ≤ gr; omega) (.int .u16 sk.s)).setCell (p := ⟨gr, 7, none⟩) (by show w.heap.size ≤ gr; omega) (.int .u16 sk.u)) | exact (inv_of hT ((((((((hi4.2.setCell (p := ⟨gr, 0, none⟩) (by show w.heap.size ≤ gr; omega) (.int .u16 sk.y)).setCell (p := ⟨gr, 1, none⟩) (by show w.heap.size ≤ gr; omega) (.int .u16 sk.m)).setCell (p := ⟨gr, 2, none⟩) (by show w.heap.size ≤ gr; omega) (.int .u16 sk.v)).setCell (p := ⟨gr, 3, none⟩) (by show w.heap.size ≤ gr; omega) (.int .u16 sk.d)).setCell (p := ⟨gr, 4, none⟩) (by show w.heap.size ≤ gr; omega) (.int .u16 sk.h)).setCell (p := ⟨gr, 5, none⟩) (by show w.heap.size ≤ gr; omega) (.int .u16 sk.i)).setCell (p := ⟨gr, 6, none⟩) (by show w.heap.size ≤ gr; omega) (.int .u16 sk.s)).setCell (p := ⟨gr, 7, none⟩) (by show w.heap.size ≤ gr; omega) (.int .u16 sk.u))).drew
                        · exact ((((((((hx4.far (p := ⟨gr, 0, none⟩) (by show w.heap.size ≠ gr; omega) (.int .u16 sk.y)).far (p := ⟨gr, 1, none⟩) (by show w.heap.size ≠ gr; omega) (.int .u16 sk.m)).far (p := ⟨gr, 2, none⟩) (by show w.heap.size ≠ gr; omega) (.int .u16 sk.v)).far (p := ⟨gr, 3, none⟩) (by show w.heap.size ≠ gr; omega) (.int .u16 sk.d)).far (p := ⟨gr, 4, none⟩) (by show w.heap.size ≠ gr; omega) (.int .u16 sk.h)).far (p := ⟨gr, 5, none⟩) (by show w.heap.size ≠ gr; omega) (.int .u16 sk.i)).far (p := ⟨gr, 6, none⟩) (by show w.heap.size ≠ gr; omega) (.int .u16 sk.s)).far (p := ⟨gr, 7, none⟩) (by show w.heap.size ≠ gr; omega) (.int .u16 sk.u))
                        · exact ((((((((ha4.far (p := ⟨gr, 0, none⟩) (by show ga ≠ gr; omega) (.int .u16 sk.y)).far (p := ⟨gr, 1, none⟩) (by show ga ≠ gr; omega) (.int .u16 sk.m)).far (p := ⟨gr, 2, none⟩) (by show ga ≠ gr; omega) (.int .u16 sk.v)).far (p := ⟨gr, 3, none⟩) (by show ga ≠ gr; omega) (.int .u16 sk.d)).far (p := ⟨gr, 4, none⟩) (by show ga ≠ gr; omega) (.int .u16 sk.h)).far (p := ⟨gr, 5, none⟩) (by show ga ≠ gr; omega) (.int .u16 sk.i)).far (p := ⟨gr, 6, none⟩) (by show ga ≠ gr; omega) (.int .u16 sk.s)).far (p := ⟨gr, 7, none⟩) (by show ga ≠ gr; omega) (.int .u16 sk.u))
                        · exact ((((((((hb4.far (p := ⟨gr, 0, none⟩) (by show ga + 1 ≠ gr; omega) (.int .u16 sk.y)).far (p := ⟨gr, 1, none⟩) (by show ga + 1 ≠ gr; omega) (.int .u16 sk.m)).far (p := ⟨gr, 2, none⟩) (by show ga + 1 ≠ gr; omega) (.int .u16 sk.v)).far (p := ⟨gr, 3, none⟩) (by show ga + 1 ≠ gr; omega) (.int .u16 sk.d)).far (p := ⟨gr, 4, none⟩) (by show ga + 1 ≠ gr; omega) (.int .u16 sk.h)).far (p := ⟨gr, 5, none⟩) (by show ga + 1 ≠ gr; omega) (.int .u16 sk.i)).far (p := ⟨gr, 6, none⟩) (by show ga + 1 ≠ gr; omega) (.int .u16 sk.s)).far (p := ⟨gr, 7, none⟩) (by show ga + 1 ≠ gr; omega) (.int .u16 sk.u))
                        · exact ((((((((ho4.far (p := ⟨gr, 0, none⟩) (by show go ≠ gr; omega) (.int .u16 sk.y)).far (p := ⟨gr, 1, none⟩) (by show go ≠ gr; omega) (.int .u16 sk.m)).far (p := ⟨gr, 2, none⟩) (by show go ≠ gr; omega) (.int .u16 sk.v)).far (p := ⟨gr, 3, none⟩) (by show go ≠ gr; omega) (.int .u16 sk.d)).far (p := ⟨gr, 4, none⟩) (by show go ≠ gr; omega) (.int .u16 sk.h)).far (p := ⟨gr, 5, none⟩) (by show go ≠ gr; omega) (.int .u16 sk.i)).far (p := ⟨gr, 6, none⟩) (by show go ≠ gr; omega) (.int .u16 sk.s)).far (p := ⟨gr, 7, none⟩) (by show go ≠ gr; omega) (.int .u16 sk.u))
                        · have hz := ((((((((hr4.set_ 0 (.int .u16 sk.y)).set_ 1 (.int .u16 sk.m)).set_ 2 (.int .u16 sk.v)).set_ 3 (.int .u16 sk.d)).set_ 4 (.int .u16 sk.h)).set_ 5 (.int .u16 sk.i)).set_ 6 (.int .u16 sk.s)).set_ 7 (.int .u16 sk.u))
                          simp only [List.setIfInBounds_toArray, List.set_cons_zero, List.set_cons_succ] at hz
                          rw [PK.out, QK.out]; exact hz
                      case measure => simp [intOf]; omega
                  | true =>
                    have PK := Lib.hid (show P (k + 1) = P k by rw [HP.out k, EB.out, hbd]; simp [SK.out])
                    have QK := Lib.hid (show Q (k + 1) = sk by rw [HQ.out k, EB.out, hbd]; simp [SK.out])
                    have hkd := fun w' => kind_any b w'
                    rw [hbd] at hkd
                    have hrow : Row V w.heap.size (ad.add ((k + 1) * 3)) #[.int .i64 b.f, .int .i64 b.o, .bool true] := by rw [← hbd]; exact hrow
                    have hkd : ∀ w', Calls Tryd.prog 77 #[.agg #[.int .i64 b.f, .int .i64 b.o, .bool true]] w' fun e w'' => e = .returned (.int .i64 1) ∧ Below w'.heap.size w' w'' := fun w' => by have := hkd w'; unfold Sp.V Sp.A at this; rw [hbd] at this; exact this
                    clear hbd EB
                    have hrow : Row V w.heap.size (ad.add ((k + 1) * 3)) (Sp.A ⟨b.f, b.o, true⟩) := hrow
                    replace hx4 : Blk V.drew _ _ _ := hx4; replace ha4 : Blk V.drew _ _ _ := ha4; replace hb4 : Blk V.drew _ _ _ := hb4; replace ho4 : Blk V.drew _ _ _ := ho4; replace hr4 : Blk V.drew _ _ _ := hr4; replace hs4 : Blk V.drew _ _ _ := hs4; replace hi4 := hi4.drew
                    replace hrow : Row V.drew _ _ _ := hrow
                    have u0 := hs4.cell 0; have u1 := hs4.cell 1; have u2 := hs4.cell 2; have u3 := hs4.cell 3; have u4 := hs4.cell 4; have u5 := hs4.cell 5; have u6 := hs4.cell 6; have u7 := hs4.cell 7
                    have v0 := hr4.cell 8; have v1 := hr4.cell 9; have v2 := hr4.cell 10; have v3 := hr4.cell 11; have v4 := hr4.cell 12; have v5 := hr4.cell 13; have v6 := hr4.cell 14; have v7 := hr4.cell 15
                    simp at u0 v0 u1 v1 u2 v2 u3 v3 u4 v4 u5 v5 u6 v6 u7 v7
                    have f0 := hr4.frozen 8; have f1 := hr4.frozen 9; have f2 := hr4.frozen 10; have f3 := hr4.frozen 11; have f4 := hr4.frozen 12; have f5 := hr4.frozen 13; have f6 := hr4.frozen 14; have f7 := hr4.frozen 15
                    obtain ⟨q20, q21, q22, q23, q24⟩ := SpAt.of hrow
                    go_region_with ((go_at_call 77; refine (hkd _).mono ?_; rintro e wn ⟨rfl, hbn⟩; replace hx4 := hx4.below hbn hx4.lt; replace ha4 := ha4.below hbn ha4.lt; replace hb4 := hb4.below hbn hb4.lt; replace ho4 := ho4.below hbn ho4.lt; replace hr4 := hr4.below hbn hr4.lt; replace hs4 := hs4.below hbn hs4.lt; replace hrow := hrow.below (hbn.mono hi4.2.size); replace hi4 := hi4.call hbn; clear q20 q21 q22 q23 q24 u0 v0 f0 u1 v1 f1 u2 v2 f2 u3 v3 f3 u4 v4 f4 u5 v5 f5 u6 v6 f6 u7 v7 f7; have u0 := hs4.cell 0; have u1 := hs4.cell 1; have u2 := hs4.cell 2; have u3 := hs4.cell 3; have u4 := hs4.cell 4; have u5 := hs4.cell 5; have u6 := hs4.cell 6; have u7 := hs4.cell 7; have v0 := hr4.cell 8; have v1 := hr4.cell 9; have v2 := hr4.cell 10; have v3 := hr4.cell 11; have v4 := hr4.cell 12; have v5 := hr4.cell 13; have v6 := hr4.cell 14; have v7 := hr4.cell 15; simp at u0 v0 u1 v1 u2 v2 u3 v3 u4 v4 u5 v5 u6 v6 u7 v7; have f0 := hr4.frozen 8; have f1 := hr4.frozen 9; have f2 := hr4.frozen 10; have f3 := hr4.frozen 11; have f4 := hr4.frozen 12; have f5 := hr4.frozen 13; have f6 := hr4.frozen 14; have f7 := hr4.frozen 15; obtain ⟨q20, q21, q22, q23, q24⟩ := SpAt.of hrow; clear hbn))
                    all_goals
                      go_wp2_with fail
                      go_roundw
                      case rel =>
                        refine ⟨k + 1, by go_num, by omega, ?_, ?_, ?_, ?_, ?_, ?_⟩
                        · first | exact inv_of hT ((((((((hi4.2.setCell (p := ⟨gr, 8, none⟩) (by show w.heap.size ≤ gr; omega) (.int .u16 sk.y)).setCell (p := ⟨gr, 9, none⟩) (by show w.heap.size ≤ gr; omega) (.int .u16 sk.m)).setCell (p := ⟨gr, 10, none⟩) (by show w.heap.size ≤ gr; omega) (.int .u16 sk.v)).setCell (p := ⟨gr, 11, none⟩) (by show w.heap.size ≤ gr; omega) (.int .u16 sk.d)).setCell (p := ⟨gr, 12, none⟩) (by show w.heap.size ≤ gr; omega) (.int .u16 sk.h)).setCell (p := ⟨gr, 13, none⟩) (by show w.heap.size ≤ gr; omega) (.int .u16 sk.i)).setCell (p := ⟨gr, 14, none⟩) (by show w.heap.size ≤ gr; omega) (.int .u16 sk.s)).setCell (p := ⟨gr, 15, none⟩) (by show w.heap.size ≤ gr; omega) (.int .u16 sk.u)) | exact (inv_of hT ((((((((hi4.2.setCell (p := ⟨gr, 8, none⟩) (by show w.heap.size ≤ gr; omega) (.int .u16 sk.y)).setCell (p := ⟨gr, 9, none⟩) (by show w.heap.size ≤ gr; omega) (.int .u16 sk.m)).setCell (p := ⟨gr, 10, none⟩) (by show w.heap.size ≤ gr; omega) (.int .u16 sk.v)).setCell (p := ⟨gr, 11, none⟩) (by show w.heap.size ≤ gr; omega) (.int .u16 sk.d)).setCell (p := ⟨gr, 12, none⟩) (by show w.heap.size ≤ gr; omega) (.int .u16 sk.h)).setCell (p := ⟨gr, 13, none⟩) (by show w.heap.size ≤ gr; omega) (.int .u16 sk.i)).setCell (p := ⟨gr, 14, none⟩) (by show w.heap.size ≤ gr; omega) (.int .u16 sk.s)).setCell (p := ⟨gr, 15, none⟩) (by show w.heap.size ≤ gr; omega) (.int .u16 sk.u))).drew
                        · exact ((((((((hx4.far (p := ⟨gr, 8, none⟩) (by show w.heap.size ≠ gr; omega) (.int .u16 sk.y)).far (p := ⟨gr, 9, none⟩) (by show w.heap.size ≠ gr; omega) (.int .u16 sk.m)).far (p := ⟨gr, 10, none⟩) (by show w.heap.size ≠ gr; omega) (.int .u16 sk.v)).far (p := ⟨gr, 11, none⟩) (by show w.heap.size ≠ gr; omega) (.int .u16 sk.d)).far (p := ⟨gr, 12, none⟩) (by show w.heap.size ≠ gr; omega) (.int .u16 sk.h)).far (p := ⟨gr, 13, none⟩) (by show w.heap.size ≠ gr; omega) (.int .u16 sk.i)).far (p := ⟨gr, 14, none⟩) (by show w.heap.size ≠ gr; omega) (.int .u16 sk.s)).far (p := ⟨gr, 15, none⟩) (by show w.heap.size ≠ gr; omega) (.int .u16 sk.u))
                        · exact ((((((((ha4.far (p := ⟨gr, 8, none⟩) (by show ga ≠ gr; omega) (.int .u16 sk.y)).far (p := ⟨gr, 9, none⟩) (by show ga ≠ gr; omega) (.int .u16 sk.m)).far (p := ⟨gr, 10, none⟩) (by show ga ≠ gr; omega) (.int .u16 sk.v)).far (p := ⟨gr, 11, none⟩) (by show ga ≠ gr; omega) (.int .u16 sk.d)).far (p := ⟨gr, 12, none⟩) (by show ga ≠ gr; omega) (.int .u16 sk.h)).far (p := ⟨gr, 13, none⟩) (by show ga ≠ gr; omega) (.int .u16 sk.i)).far (p := ⟨gr, 14, none⟩) (by show ga ≠ gr; omega) (.int .u16 sk.s)).far (p := ⟨gr, 15, none⟩) (by show ga ≠ gr; omega) (.int .u16 sk.u))
                        · exact ((((((((hb4.far (p := ⟨gr, 8, none⟩) (by show ga + 1 ≠ gr; omega) (.int .u16 sk.y)).far (p := ⟨gr, 9, none⟩) (by show ga + 1 ≠ gr; omega) (.int .u16 sk.m)).far (p := ⟨gr, 10, none⟩) (by show ga + 1 ≠ gr; omega) (.int .u16 sk.v)).far (p := ⟨gr, 11, none⟩) (by show ga + 1 ≠ gr; omega) (.int .u16 sk.d)).far (p := ⟨gr, 12, none⟩) (by show ga + 1 ≠ gr; omega) (.int .u16 sk.h)).far (p := ⟨gr, 13, none⟩) (by show ga + 1 ≠ gr; omega) (.int .u16 sk.i)).far (p := ⟨gr, 14, none⟩) (by show ga + 1 ≠ gr; omega) (.int .u16 sk.s)).far (p := ⟨gr, 15, none⟩) (by show ga + 1 ≠ gr; omega) (.int .u16 sk.u))
                        · exact ((((((((ho4.far (p := ⟨gr, 8, none⟩) (by show go ≠ gr; omega) (.int .u16 sk.y)).far (p := ⟨gr, 9, none⟩) (by show go ≠ gr; omega) (.int .u16 sk.m)).far (p := ⟨gr, 10, none⟩) (by show go ≠ gr; omega) (.int .u16 sk.v)).far (p := ⟨gr, 11, none⟩) (by show go ≠ gr; omega) (.int .u16 sk.d)).far (p := ⟨gr, 12, none⟩) (by show go ≠ gr; omega) (.int .u16 sk.h)).far (p := ⟨gr, 13, none⟩) (by show go ≠ gr; omega) (.int .u16 sk.i)).far (p := ⟨gr, 14, none⟩) (by show go ≠ gr; omega) (.int .u16 sk.s)).far (p := ⟨gr, 15, none⟩) (by show go ≠ gr; omega) (.int .u16 sk.u))
                        · have hz := ((((((((hr4.set_ 8 (.int .u16 sk.y)).set_ 9 (.int .u16 sk.m)).set_ 10 (.int .u16 sk.v)).set_ 11 (.int .u16 sk.d)).set_ 12 (.int .u16 sk.h)).set_ 13 (.int .u16 sk.i)).set_ 14 (.int .u16 sk.s)).set_ 15 (.int .u16 sk.u))
                          simp only [List.setIfInBounds_toArray, List.set_cons_zero, List.set_cons_succ] at hz
                          rw [PK.out, QK.out]; exact hz
                      case measure => simp [intOf]; omega
                · have hne : (b.f + a.o != T) = true := by simp [hc]
                  have hstk := HST.out k hlt (by rw [HCV.out]; exact hc)
                  rw [HCV.out] at hstk
                  obtain ⟨sk, hsk⟩ : ∃ sk : St, fsS (b.f + a.o) = sk := ⟨_, rfl⟩
                  rw [hsk] at hstk
                  have SK := Lib.hid (show S k = sk by rw [HS.out k, HCV.out, if_neg hc, hsk])
                  clear hc hsk
                  unfold sA at hstk
                  go_wp2_with (first | refine wpList_row_g rfl 26 _ rfl _ rfl _ _ _ _ hb2 Tryd.underlying26 rfl (by kernel_rfl) ?_ | refine wpList_store_new rfl 26 _ _ rfl rfl W2.heap.size #[.int .u16 q.y, .int .u16 q.m, .int .u16 q.v, .int .u16 q.d, .int .u16 q.h, .int .u16 q.i, .int .u16 q.s, .int .u16 q.u] rfl rfl _ #[.int .u16 0, .int .u16 0, .int .u16 0, .int .u16 0, .int .u16 0, .int .u16 0, .int .u16 0, .int .u16 0] W2 rfl rfl rfl (by kernel_rfl) (by kernel_rfl) ?_ | (go_at_call 15; refine (hstk _ hi3.1).mono ?_; rintro e wS ⟨rfl, hbS⟩; refine Hid.out ?_))
                  refine Lib.hid ?_
                  have hiS := hi3.call hbS; have hxS := hx3.below hbS hx3.lt; have haS := ha3.below hbS ha3.lt; have hbbS := hb3.below hbS hb3.lt; have hoS := ho3.below hbS ho3.lt; have hrS := hr3.below hbS hr3.lt; have hsS := hs3.below hbS hs3.lt; have hwS := hw3.below (hbS.mono hi3.2.size)
                  clear hi2 hx2 ha2 hb2 ho2 hr2 hw2 hi3 hx3 ha3 hb3 ho3 hr3 hs3 hw3 hbS hstk
                  generalize W2.heap.size = gs at *
                  have hi4 : Inv w (wS.setRow gs #[.int .u16 sk.y, .int .u16 sk.m, .int .u16 sk.v, .int .u16 sk.d, .int .u16 sk.h, .int .u16 sk.i, .int .u16 sk.s, .int .u16 sk.u]) := inv_of hT (below_row hiS.2 (by omega) _)
                  have hx4 := Blk.rowFar hxS (show w.heap.size ≠ gs by omega) #[.int .u16 sk.y, .int .u16 sk.m, .int .u16 sk.v, .int .u16 sk.d, .int .u16 sk.h, .int .u16 sk.i, .int .u16 sk.s, .int .u16 sk.u]; have ha4 := Blk.rowFar haS (show ga ≠ gs by omega) #[.int .u16 sk.y, .int .u16 sk.m, .int .u16 sk.v, .int .u16 sk.d, .int .u16 sk.h, .int .u16 sk.i, .int .u16 sk.s, .int .u16 sk.u]; have hb4 := Blk.rowFar hbbS (show ga + 1 ≠ gs by omega) #[.int .u16 sk.y, .int .u16 sk.m, .int .u16 sk.v, .int .u16 sk.d, .int .u16 sk.h, .int .u16 sk.i, .int .u16 sk.s, .int .u16 sk.u]; have ho4 := Blk.rowFar hoS (show go ≠ gs by omega) #[.int .u16 sk.y, .int .u16 sk.m, .int .u16 sk.v, .int .u16 sk.d, .int .u16 sk.h, .int .u16 sk.i, .int .u16 sk.s, .int .u16 sk.u]; have hr4 := Blk.rowFar hrS (show gr ≠ gs by omega) #[.int .u16 sk.y, .int .u16 sk.m, .int .u16 sk.v, .int .u16 sk.d, .int .u16 sk.h, .int .u16 sk.i, .int .u16 sk.s, .int .u16 sk.u]; have hs4 := Blk.row hsS #[.int .u16 sk.y, .int .u16 sk.m, .int .u16 sk.v, .int .u16 sk.d, .int .u16 sk.h, .int .u16 sk.i, .int .u16 sk.s, .int .u16 sk.u]
                  have hrow := hwS.below (below_row (Below.refl w.heap.size wS) (show w.heap.size ≤ gs by omega) #[.int .u16 sk.y, .int .u16 sk.m, .int .u16 sk.v, .int .u16 sk.d, .int .u16 sk.h, .int .u16 sk.i, .int .u16 sk.s, .int .u16 sk.u])
                  go_upto_region 26 with (refine wpList_store_g rfl 26 _ _ rfl rfl _ 0 #[.int .u16 sk.y, .int .u16 sk.m, .int .u16 sk.v, .int .u16 sk.d, .int .u16 sk.h, .int .u16 sk.i, .int .u16 sk.s, .int .u16 sk.u] #[.int .u16 sk.y, .int .u16 sk.m, .int .u16 sk.v, .int .u16 sk.d, .int .u16 sk.h, .int .u16 sk.i, .int .u16 sk.s, .int .u16 sk.u] rfl rfl _ _ hsS (by show 0 + 8 ≤ 8; decide) (by kernel_rfl) (by kernel_rfl) (by kernel_rfl) ?_)
                  clear hiS hxS haS hbbS hoS hrS hsS hwS hne
                  generalize wS.setRow gs #[.int .u16 sk.y, .int .u16 sk.m, .int .u16 sk.v, .int .u16 sk.d, .int .u16 sk.h, .int .u16 sk.i, .int .u16 sk.s, .int .u16 sk.u] = V at *
                  cases hbd : b.d with
                  | false =>
                    have PK := Lib.hid (show P (k + 1) = sk by rw [HP.out k, EB.out, hbd]; simp [SK.out])
                    have QK := Lib.hid (show Q (k + 1) = Q k by rw [HQ.out k, EB.out, hbd]; simp [SK.out])
                    have hkd := fun w' => kind_any b w'
                    rw [hbd] at hkd
                    have hrow : Row V w.heap.size (ad.add ((k + 1) * 3)) #[.int .i64 b.f, .int .i64 b.o, .bool false] := by rw [← hbd]; exact hrow
                    have hkd : ∀ w', Calls Tryd.prog 77 #[.agg #[.int .i64 b.f, .int .i64 b.o, .bool false]] w' fun e w'' => e = .returned (.int .i64 0) ∧ Below w'.heap.size w' w'' := fun w' => by have := hkd w'; unfold Sp.V Sp.A at this; rw [hbd] at this; exact this
                    clear hbd EB
                    have hrow : Row V w.heap.size (ad.add ((k + 1) * 3)) (Sp.A ⟨b.f, b.o, false⟩) := hrow
                    replace hx4 : Blk V.drew _ _ _ := hx4; replace ha4 : Blk V.drew _ _ _ := ha4; replace hb4 : Blk V.drew _ _ _ := hb4; replace ho4 : Blk V.drew _ _ _ := ho4; replace hr4 : Blk V.drew _ _ _ := hr4; replace hs4 : Blk V.drew _ _ _ := hs4; replace hi4 := hi4.drew
                    replace hrow : Row V.drew _ _ _ := hrow
                    have u0 := hs4.cell 0; have u1 := hs4.cell 1; have u2 := hs4.cell 2; have u3 := hs4.cell 3; have u4 := hs4.cell 4; have u5 := hs4.cell 5; have u6 := hs4.cell 6; have u7 := hs4.cell 7
                    have v0 := hr4.cell 0; have v1 := hr4.cell 1; have v2 := hr4.cell 2; have v3 := hr4.cell 3; have v4 := hr4.cell 4; have v5 := hr4.cell 5; have v6 := hr4.cell 6; have v7 := hr4.cell 7
                    simp at u0 v0 u1 v1 u2 v2 u3 v3 u4 v4 u5 v5 u6 v6 u7 v7
                    have f0 := hr4.frozen 0; have f1 := hr4.frozen 1; have f2 := hr4.frozen 2; have f3 := hr4.frozen 3; have f4 := hr4.frozen 4; have f5 := hr4.frozen 5; have f6 := hr4.frozen 6; have f7 := hr4.frozen 7
                    obtain ⟨q20, q21, q22, q23, q24⟩ := SpAt.of hrow
                    go_region_with ((go_at_call 77; refine (hkd _).mono ?_; rintro e wn ⟨rfl, hbn⟩; replace hx4 := hx4.below hbn hx4.lt; replace ha4 := ha4.below hbn ha4.lt; replace hb4 := hb4.below hbn hb4.lt; replace ho4 := ho4.below hbn ho4.lt; replace hr4 := hr4.below hbn hr4.lt; replace hs4 := hs4.below hbn hs4.lt; replace hrow := hrow.below (hbn.mono hi4.2.size); replace hi4 := hi4.call hbn; clear q20 q21 q22 q23 q24 u0 v0 f0 u1 v1 f1 u2 v2 f2 u3 v3 f3 u4 v4 f4 u5 v5 f5 u6 v6 f6 u7 v7 f7; have u0 := hs4.cell 0; have u1 := hs4.cell 1; have u2 := hs4.cell 2; have u3 := hs4.cell 3; have u4 := hs4.cell 4; have u5 := hs4.cell 5; have u6 := hs4.cell 6; have u7 := hs4.cell 7; have v0 := hr4.cell 0; have v1 := hr4.cell 1; have v2 := hr4.cell 2; have v3 := hr4.cell 3; have v4 := hr4.cell 4; have v5 := hr4.cell 5; have v6 := hr4.cell 6; have v7 := hr4.cell 7; simp at u0 v0 u1 v1 u2 v2 u3 v3 u4 v4 u5 v5 u6 v6 u7 v7; have f0 := hr4.frozen 0; have f1 := hr4.frozen 1; have f2 := hr4.frozen 2; have f3 := hr4.frozen 3; have f4 := hr4.frozen 4; have f5 := hr4.frozen 5; have f6 := hr4.frozen 6; have f7 := hr4.frozen 7; obtain ⟨q20, q21, q22, q23, q24⟩ := SpAt.of hrow; clear hbn))
                    all_goals
                      go_wp2_with fail
                      go_roundw
                      case rel =>
                        refine ⟨k + 1, by go_num, by omega, ?_, ?_, ?_, ?_, ?_, ?_⟩
                        · first | exact inv_of hT ((((((((hi4.2.setCell (p := ⟨gr, 0, none⟩) (by show w.heap.size ≤ gr; omega) (.int .u16 sk.y)).setCell (p := ⟨gr, 1, none⟩) (by show w.heap.size ≤ gr; omega) (.int .u16 sk.m)).setCell (p := ⟨gr, 2, none⟩) (by show w.heap.size ≤ gr; omega) (.int .u16 sk.v)).setCell (p := ⟨gr, 3, none⟩) (by show w.heap.size ≤ gr; omega) (.int .u16 sk.d)).setCell (p := ⟨gr, 4, none⟩) (by show w.heap.size ≤ gr; omega) (.int .u16 sk.h)).setCell (p := ⟨gr, 5, none⟩) (by show w.heap.size ≤ gr; omega) (.int .u16 sk.i)).setCell (p := ⟨gr, 6, none⟩) (by show w.heap.size ≤ gr; omega) (.int .u16 sk.s)).setCell (p := ⟨gr, 7, none⟩) (by show w.heap.size ≤ gr; omega) (.int .u16 sk.u)) | exact (inv_of hT ((((((((hi4.2.setCell (p := ⟨gr, 0, none⟩) (by show w.heap.size ≤ gr; omega) (.int .u16 sk.y)).setCell (p := ⟨gr, 1, none⟩) (by show w.heap.size ≤ gr; omega) (.int .u16 sk.m)).setCell (p := ⟨gr, 2, none⟩) (by show w.heap.size ≤ gr; omega) (.int .u16 sk.v)).setCell (p := ⟨gr, 3, none⟩) (by show w.heap.size ≤ gr; omega) (.int .u16 sk.d)).setCell (p := ⟨gr, 4, none⟩) (by show w.heap.size ≤ gr; omega) (.int .u16 sk.h)).setCell (p := ⟨gr, 5, none⟩) (by show w.heap.size ≤ gr; omega) (.int .u16 sk.i)).setCell (p := ⟨gr, 6, none⟩) (by show w.heap.size ≤ gr; omega) (.int .u16 sk.s)).setCell (p := ⟨gr, 7, none⟩) (by show w.heap.size ≤ gr; omega) (.int .u16 sk.u))).drew
                        · exact ((((((((hx4.far (p := ⟨gr, 0, none⟩) (by show w.heap.size ≠ gr; omega) (.int .u16 sk.y)).far (p := ⟨gr, 1, none⟩) (by show w.heap.size ≠ gr; omega) (.int .u16 sk.m)).far (p := ⟨gr, 2, none⟩) (by show w.heap.size ≠ gr; omega) (.int .u16 sk.v)).far (p := ⟨gr, 3, none⟩) (by show w.heap.size ≠ gr; omega) (.int .u16 sk.d)).far (p := ⟨gr, 4, none⟩) (by show w.heap.size ≠ gr; omega) (.int .u16 sk.h)).far (p := ⟨gr, 5, none⟩) (by show w.heap.size ≠ gr; omega) (.int .u16 sk.i)).far (p := ⟨gr, 6, none⟩) (by show w.heap.size ≠ gr; omega) (.int .u16 sk.s)).far (p := ⟨gr, 7, none⟩) (by show w.heap.size ≠ gr; omega) (.int .u16 sk.u))
                        · exact ((((((((ha4.far (p := ⟨gr, 0, none⟩) (by show ga ≠ gr; omega) (.int .u16 sk.y)).far (p := ⟨gr, 1, none⟩) (by show ga ≠ gr; omega) (.int .u16 sk.m)).far (p := ⟨gr, 2, none⟩) (by show ga ≠ gr; omega) (.int .u16 sk.v)).far (p := ⟨gr, 3, none⟩) (by show ga ≠ gr; omega) (.int .u16 sk.d)).far (p := ⟨gr, 4, none⟩) (by show ga ≠ gr; omega) (.int .u16 sk.h)).far (p := ⟨gr, 5, none⟩) (by show ga ≠ gr; omega) (.int .u16 sk.i)).far (p := ⟨gr, 6, none⟩) (by show ga ≠ gr; omega) (.int .u16 sk.s)).far (p := ⟨gr, 7, none⟩) (by show ga ≠ gr; omega) (.int .u16 sk.u))
                        · exact ((((((((hb4.far (p := ⟨gr, 0, none⟩) (by show ga + 1 ≠ gr; omega) (.int .u16 sk.y)).far (p := ⟨gr, 1, none⟩) (by show ga + 1 ≠ gr; omega) (.int .u16 sk.m)).far (p := ⟨gr, 2, none⟩) (by show ga + 1 ≠ gr; omega) (.int .u16 sk.v)).far (p := ⟨gr, 3, none⟩) (by show ga + 1 ≠ gr; omega) (.int .u16 sk.d)).far (p := ⟨gr, 4, none⟩) (by show ga + 1 ≠ gr; omega) (.int .u16 sk.h)).far (p := ⟨gr, 5, none⟩) (by show ga + 1 ≠ gr; omega) (.int .u16 sk.i)).far (p := ⟨gr, 6, none⟩) (by show ga + 1 ≠ gr; omega) (.int .u16 sk.s)).far (p := ⟨gr, 7, none⟩) (by show ga + 1 ≠ gr; omega) (.int .u16 sk.u))
                        · exact ((((((((ho4.far (p := ⟨gr, 0, none⟩) (by show go ≠ gr; omega) (.int .u16 sk.y)).far (p := ⟨gr, 1, none⟩) (by show go ≠ gr; omega) (.int .u16 sk.m)).far (p := ⟨gr, 2, none⟩) (by show go ≠ gr; omega) (.int .u16 sk.v)).far (p := ⟨gr, 3, none⟩) (by show go ≠ gr; omega) (.int .u16 sk.d)).far (p := ⟨gr, 4, none⟩) (by show go ≠ gr; omega) (.int .u16 sk.h)).far (p := ⟨gr, 5, none⟩) (by show go ≠ gr; omega) (.int .u16 sk.i)).far (p := ⟨gr, 6, none⟩) (by show go ≠ gr; omega) (.int .u16 sk.s)).far (p := ⟨gr, 7, none⟩) (by show go ≠ gr; omega) (.int .u16 sk.u))
                        · have hz := ((((((((hr4.set_ 0 (.int .u16 sk.y)).set_ 1 (.int .u16 sk.m)).set_ 2 (.int .u16 sk.v)).set_ 3 (.int .u16 sk.d)).set_ 4 (.int .u16 sk.h)).set_ 5 (.int .u16 sk.i)).set_ 6 (.int .u16 sk.s)).set_ 7 (.int .u16 sk.u))
                          simp only [List.setIfInBounds_toArray, List.set_cons_zero, List.set_cons_succ] at hz
                          rw [PK.out, QK.out]; exact hz
                      case measure => simp [intOf]; omega
                  | true =>
                    have PK := Lib.hid (show P (k + 1) = P k by rw [HP.out k, EB.out, hbd]; simp [SK.out])
                    have QK := Lib.hid (show Q (k + 1) = sk by rw [HQ.out k, EB.out, hbd]; simp [SK.out])
                    have hkd := fun w' => kind_any b w'
                    rw [hbd] at hkd
                    have hrow : Row V w.heap.size (ad.add ((k + 1) * 3)) #[.int .i64 b.f, .int .i64 b.o, .bool true] := by rw [← hbd]; exact hrow
                    have hkd : ∀ w', Calls Tryd.prog 77 #[.agg #[.int .i64 b.f, .int .i64 b.o, .bool true]] w' fun e w'' => e = .returned (.int .i64 1) ∧ Below w'.heap.size w' w'' := fun w' => by have := hkd w'; unfold Sp.V Sp.A at this; rw [hbd] at this; exact this
                    clear hbd EB
                    have hrow : Row V w.heap.size (ad.add ((k + 1) * 3)) (Sp.A ⟨b.f, b.o, true⟩) := hrow
                    replace hx4 : Blk V.drew _ _ _ := hx4; replace ha4 : Blk V.drew _ _ _ := ha4; replace hb4 : Blk V.drew _ _ _ := hb4; replace ho4 : Blk V.drew _ _ _ := ho4; replace hr4 : Blk V.drew _ _ _ := hr4; replace hs4 : Blk V.drew _ _ _ := hs4; replace hi4 := hi4.drew
                    replace hrow : Row V.drew _ _ _ := hrow
                    have u0 := hs4.cell 0; have u1 := hs4.cell 1; have u2 := hs4.cell 2; have u3 := hs4.cell 3; have u4 := hs4.cell 4; have u5 := hs4.cell 5; have u6 := hs4.cell 6; have u7 := hs4.cell 7
                    have v0 := hr4.cell 8; have v1 := hr4.cell 9; have v2 := hr4.cell 10; have v3 := hr4.cell 11; have v4 := hr4.cell 12; have v5 := hr4.cell 13; have v6 := hr4.cell 14; have v7 := hr4.cell 15
                    simp at u0 v0 u1 v1 u2 v2 u3 v3 u4 v4 u5 v5 u6 v6 u7 v7
                    have f0 := hr4.frozen 8; have f1 := hr4.frozen 9; have f2 := hr4.frozen 10; have f3 := hr4.frozen 11; have f4 := hr4.frozen 12; have f5 := hr4.frozen 13; have f6 := hr4.frozen 14; have f7 := hr4.frozen 15
                    obtain ⟨q20, q21, q22, q23, q24⟩ := SpAt.of hrow
                    go_region_with ((go_at_call 77; refine (hkd _).mono ?_; rintro e wn ⟨rfl, hbn⟩; replace hx4 := hx4.below hbn hx4.lt; replace ha4 := ha4.below hbn ha4.lt; replace hb4 := hb4.below hbn hb4.lt; replace ho4 := ho4.below hbn ho4.lt; replace hr4 := hr4.below hbn hr4.lt; replace hs4 := hs4.below hbn hs4.lt; replace hrow := hrow.below (hbn.mono hi4.2.size); replace hi4 := hi4.call hbn; clear q20 q21 q22 q23 q24 u0 v0 f0 u1 v1 f1 u2 v2 f2 u3 v3 f3 u4 v4 f4 u5 v5 f5 u6 v6 f6 u7 v7 f7; have u0 := hs4.cell 0; have u1 := hs4.cell 1; have u2 := hs4.cell 2; have u3 := hs4.cell 3; have u4 := hs4.cell 4; have u5 := hs4.cell 5; have u6 := hs4.cell 6; have u7 := hs4.cell 7; have v0 := hr4.cell 8; have v1 := hr4.cell 9; have v2 := hr4.cell 10; have v3 := hr4.cell 11; have v4 := hr4.cell 12; have v5 := hr4.cell 13; have v6 := hr4.cell 14; have v7 := hr4.cell 15; simp at u0 v0 u1 v1 u2 v2 u3 v3 u4 v4 u5 v5 u6 v6 u7 v7; have f0 := hr4.frozen 8; have f1 := hr4.frozen 9; have f2 := hr4.frozen 10; have f3 := hr4.frozen 11; have f4 := hr4.frozen 12; have f5 := hr4.frozen 13; have f6 := hr4.frozen 14; have f7 := hr4.frozen 15; obtain ⟨q20, q21, q22, q23, q24⟩ := SpAt.of hrow; clear hbn))
                    all_goals
                      go_wp2_with fail
                      go_roundw
                      case rel =>
                        refine ⟨k + 1, by go_num, by omega, ?_, ?_, ?_, ?_, ?_, ?_⟩
                        · first | exact inv_of hT ((((((((hi4.2.setCell (p := ⟨gr, 8, none⟩) (by show w.heap.size ≤ gr; omega) (.int .u16 sk.y)).setCell (p := ⟨gr, 9, none⟩) (by show w.heap.size ≤ gr; omega) (.int .u16 sk.m)).setCell (p := ⟨gr, 10, none⟩) (by show w.heap.size ≤ gr; omega) (.int .u16 sk.v)).setCell (p := ⟨gr, 11, none⟩) (by show w.heap.size ≤ gr; omega) (.int .u16 sk.d)).setCell (p := ⟨gr, 12, none⟩) (by show w.heap.size ≤ gr; omega) (.int .u16 sk.h)).setCell (p := ⟨gr, 13, none⟩) (by show w.heap.size ≤ gr; omega) (.int .u16 sk.i)).setCell (p := ⟨gr, 14, none⟩) (by show w.heap.size ≤ gr; omega) (.int .u16 sk.s)).setCell (p := ⟨gr, 15, none⟩) (by show w.heap.size ≤ gr; omega) (.int .u16 sk.u)) | exact (inv_of hT ((((((((hi4.2.setCell (p := ⟨gr, 8, none⟩) (by show w.heap.size ≤ gr; omega) (.int .u16 sk.y)).setCell (p := ⟨gr, 9, none⟩) (by show w.heap.size ≤ gr; omega) (.int .u16 sk.m)).setCell (p := ⟨gr, 10, none⟩) (by show w.heap.size ≤ gr; omega) (.int .u16 sk.v)).setCell (p := ⟨gr, 11, none⟩) (by show w.heap.size ≤ gr; omega) (.int .u16 sk.d)).setCell (p := ⟨gr, 12, none⟩) (by show w.heap.size ≤ gr; omega) (.int .u16 sk.h)).setCell (p := ⟨gr, 13, none⟩) (by show w.heap.size ≤ gr; omega) (.int .u16 sk.i)).setCell (p := ⟨gr, 14, none⟩) (by show w.heap.size ≤ gr; omega) (.int .u16 sk.s)).setCell (p := ⟨gr, 15, none⟩) (by show w.heap.size ≤ gr; omega) (.int .u16 sk.u))).drew
                        · exact ((((((((hx4.far (p := ⟨gr, 8, none⟩) (by show w.heap.size ≠ gr; omega) (.int .u16 sk.y)).far (p := ⟨gr, 9, none⟩) (by show w.heap.size ≠ gr; omega) (.int .u16 sk.m)).far (p := ⟨gr, 10, none⟩) (by show w.heap.size ≠ gr; omega) (.int .u16 sk.v)).far (p := ⟨gr, 11, none⟩) (by show w.heap.size ≠ gr; omega) (.int .u16 sk.d)).far (p := ⟨gr, 12, none⟩) (by show w.heap.size ≠ gr; omega) (.int .u16 sk.h)).far (p := ⟨gr, 13, none⟩) (by show w.heap.size ≠ gr; omega) (.int .u16 sk.i)).far (p := ⟨gr, 14, none⟩) (by show w.heap.size ≠ gr; omega) (.int .u16 sk.s)).far (p := ⟨gr, 15, none⟩) (by show w.heap.size ≠ gr; omega) (.int .u16 sk.u))
                        · exact ((((((((ha4.far (p := ⟨gr, 8, none⟩) (by show ga ≠ gr; omega) (.int .u16 sk.y)).far (p := ⟨gr, 9, none⟩) (by show ga ≠ gr; omega) (.int .u16 sk.m)).far (p := ⟨gr, 10, none⟩) (by show ga ≠ gr; omega) (.int .u16 sk.v)).far (p := ⟨gr, 11, none⟩) (by show ga ≠ gr; omega) (.int .u16 sk.d)).far (p := ⟨gr, 12, none⟩) (by show ga ≠ gr; omega) (.int .u16 sk.h)).far (p := ⟨gr, 13, none⟩) (by show ga ≠ gr; omega) (.int .u16 sk.i)).far (p := ⟨gr, 14, none⟩) (by show ga ≠ gr; omega) (.int .u16 sk.s)).far (p := ⟨gr, 15, none⟩) (by show ga ≠ gr; omega) (.int .u16 sk.u))
                        · exact ((((((((hb4.far (p := ⟨gr, 8, none⟩) (by show ga + 1 ≠ gr; omega) (.int .u16 sk.y)).far (p := ⟨gr, 9, none⟩) (by show ga + 1 ≠ gr; omega) (.int .u16 sk.m)).far (p := ⟨gr, 10, none⟩) (by show ga + 1 ≠ gr; omega) (.int .u16 sk.v)).far (p := ⟨gr, 11, none⟩) (by show ga + 1 ≠ gr; omega) (.int .u16 sk.d)).far (p := ⟨gr, 12, none⟩) (by show ga + 1 ≠ gr; omega) (.int .u16 sk.h)).far (p := ⟨gr, 13, none⟩) (by show ga + 1 ≠ gr; omega) (.int .u16 sk.i)).far (p := ⟨gr, 14, none⟩) (by show ga + 1 ≠ gr; omega) (.int .u16 sk.s)).far (p := ⟨gr, 15, none⟩) (by show ga + 1 ≠ gr; omega) (.int .u16 sk.u))
                        · exact ((((((((ho4.far (p := ⟨gr, 8, none⟩) (by show go ≠ gr; omega) (.int .u16 sk.y)).far (p := ⟨gr, 9, none⟩) (by show go ≠ gr; omega) (.int .u16 sk.m)).far (p := ⟨gr, 10, none⟩) (by show go ≠ gr; omega) (.int .u16 sk.v)).far (p := ⟨gr, 11, none⟩) (by show go ≠ gr; omega) (.int .u16 sk.d)).far (p := ⟨gr, 12, none⟩) (by show go ≠ gr; omega) (.int .u16 sk.h)).far (p := ⟨gr, 13, none⟩) (by show go ≠ gr; omega) (.int .u16 sk.i)).far (p := ⟨gr, 14, none⟩) (by show go ≠ gr; omega) (.int .u16 sk.s)).far (p := ⟨gr, 15, none⟩) (by show go ≠ gr; omega) (.int .u16 sk.u))
                        · have hz := ((((((((hr4.set_ 8 (.int .u16 sk.y)).set_ 9 (.int .u16 sk.m)).set_ 10 (.int .u16 sk.v)).set_ 11 (.int .u16 sk.d)).set_ 12 (.int .u16 sk.h)).set_ 13 (.int .u16 sk.i)).set_ 14 (.int .u16 sk.s)).set_ 15 (.int .u16 sk.u))
                          simp only [List.setIfInBounds_toArray, List.set_cons_zero, List.set_cons_succ] at hz
                          rw [PK.out, QK.out]; exact hz
                      case measure => simp [intOf]; omega
              · have hlt' : ¬ (k : Int) + 1 < (n : Int) := by omega
                have en : n - 1 = k := by omega
                rw [en] at hmk
                clear en
                have d0 := ho.cell 0; have d1 := ho.cell 1
                simp at d0 d1
                go_wp2_with (first | refine wpList_seg_g rfl 26 _ rfl _ 0 #[.int .u16 (P k).y, .int .u16 (P k).m, .int .u16 (P k).v, .int .u16 (P k).d, .int .u16 (P k).h, .int .u16 (P k).i, .int .u16 (P k).s, .int .u16 (P k).u] rfl _ _ _ _ hr Tryd.underlying26 rfl (by kernel_rfl) (by kernel_rfl) ?_ | refine wpList_seg_g rfl 26 _ rfl _ 8 #[.int .u16 (Q k).y, .int .u16 (Q k).m, .int .u16 (Q k).v, .int .u16 (Q k).d, .int .u16 (Q k).h, .int .u16 (Q k).i, .int .u16 (Q k).s, .int .u16 (Q k).u] rfl _ _ _ _ hr Tryd.underlying26 rfl (by kernel_rfl) (by kernel_rfl) ?_)
                refine (hmk _ hi.1).mono ?_; rintro e wm ⟨rfl, hbm⟩
                have him := hi.call hbm
                have hxm := hx.below hbm hx.lt
                clear hi hx ha hb ho hr d0 d1 hmk
                go_wp2_with (refine wpList_store_g rfl 28 _ _ rfl rfl _ 0 mkA mkA rfl rfl _ _ hxm (by show 0 + mkA.size ≤ 19; rw [HMS.out]; decide) (by rw [HMS.out]; kernel_rfl) HM1.out (by rw [HMS.out]; simp) ?_)
                exact bodyPost_ret (res_ct rfl _ _ _ _ mkA _ _ rfl rfl (Blk.row hxm _) Tryd.underlying28 rfl (by rw [HMS.out]; kernel_rfl)) rfl ⟨rfl, below_row him.2 (Nat.le_refl _) _⟩
end Go.Proofs.YtginidedeefcdaaDoor.Ft
