/-
  THE REFERENCE, walked: what holds in a year (ref22.Spans).
-/
import Derived.Test.YtefcjccapekjdaaDoorTdA
import Derived.Test.YtefcjccapekjdaaDoorRfP
namespace Go.Proofs.YtefcjccapekjdaaDoor.Ft
open Go.ChangeShapes Go.WideShapes Go.ChangeAt Go.RowKit
open Go.Proofs.YtefcjccapekjdaaDoor
open Go.Proofs.YtefcjccapekjdaaDoor.Wd
open Go.Proofs.YtefcjccapekjdaaDoor.Rec
open Go.Proofs.YtefcjccapekjdaaDoor.Yr
open Go.Proofs.YtefcjccapekjdaaDoor.Tb
open Go.Proofs.YtefcjccapekjdaaDoor.Rf
open Go.Proofs.YtefcjccapekjdaaDoor.Clk (yrV yrE)
open Go.Proofs.YtefcjccapekjdaaDoor.Civ (Tab Inv)
set_option linter.unusedVariables false
def cS (r : Rc) (Y F G : Int) (acc : List Sp) (t : Int) : List Sp := if t < F ∨ G ≤ t ∨ (0 < acc.length ∧ t = (at_ acc (acc.length - 1)).f) then acc else acc ++ [r.sp Y t]
def tK (r : Rc) (Y : Int) (k : Nat) : Int := if k = 0 then begY Y else if k = 1 then min (r.tr Y) (r.ts Y) else max (r.tr Y) (r.ts Y)
def cK (r : Rc) (Y : Int) : Nat → List Sp
  | 0 => []
  | k + 1 => cS r Y (begY Y) (begY (Y + 1)) (cK r Y k) (tK r Y k)
theorem cK_len (r : Rc) (Y : Int) (k : Nat) : (cK r Y k).length ≤ k := by
  induction k with
  | zero => exact Nat.le_refl _
  | succ k ih =>
    show (cS _ _ _ _ _ _).length ≤ _
    unfold cS
    split
    · omega
    · rw [List.length_append]; show _ + 1 ≤ _; omega
theorem own_form {w : World} {base : Nat} {v : Value} {l : List Sp} (h : w.ownsRow base 67 3 v l.length (flatS l)) : ∃ (A : Option Addr) (c : Nat), v = .slice A l.length c ∧ l.length ≤ c ∧ Spans w w.heap.size A l.length l := by
  by_cases h0 : l.length = 0
  · rcases h.2 with ⟨hv, _⟩ | ⟨g, cap, cur, hv, h2, h3, h4, h5⟩
    · exact ⟨none, 0, by rw [hv, h0], by omega, rfl, by rw [List.eq_nil_of_length_eq_zero h0]; exact Reads.none_⟩
    · subst hv; exact ⟨some ⟨g, 0, none⟩, cap, rfl, by omega, rfl, Reads.of_own h⟩
  · obtain ⟨g, cm, rfl, hg, hnc⟩ := own_form3 h (by omega)
    exact ⟨some ⟨g, 0, none⟩, cm, rfl, hnc, rfl, Reads.of_own h⟩
set_option maxRecDepth 100000 in
set_option maxHeartbeats 12800000 in
theorem rspans_yes (r : Rc) (Y : Int) (w : World) (hT : Tab w) (B : r.Bd) (hk : r.ok = true) (h1 : 1601 ≤ Y) (h2 : Y ≤ 9999) :
    Calls Tryd.prog 101 #[r.V, .int .i64 Y] w fun e w' => ∃ A n c, e = .returned (.tuple #[.slice A n c, .int .i64 0]) ∧ Spans w' w'.heap.size A n (tidyL (cK r Y 3)) ∧ n ≤ 3 ∧ n ≤ c ∧ Below w.heap.size w w' := by
  have i0 := Inv.start hT
  have hto : ∀ w, Tab w → Calls Tryd.prog 131 #[r.V, .int .i64 Y] w fun e w' => e = .returned (.tuple #[.int .i64 (r.tr Y), .int .i64 (r.ts Y), .int .i64 0]) ∧ Below w.heap.size w w' := fun w hT => by
    have := rTurns_any r.b r.c r.d r.p r.q Y w hT B
    rwa [Rc.tr0 hk h1 h2] at this
  have hat := fun t w (hT : Tab w) => rat_at (Y := Y) (t := t) hT B hk h1 h2
  have hb1 := fun w => rbegin_any Y w (by omega) (by omega)
  have hb2 := fun w => rbegin_any (Y + 1) w (by omega) (by omega)
  have hCL := Lib.hid (cK_len r Y)
  have hC1 := Lib.hid (fun k => (show cK r Y (k + 1) = cS r Y (begY Y) (begY (Y + 1)) (cK r Y k) (tK r Y k) from rfl))
  have hT0 := Lib.hid (show tK r Y 0 = begY Y from rfl)
  have hT1 := Lib.hid (show tK r Y 1 = min (r.tr Y) (r.ts Y) from rfl)
  have hT2 := Lib.hid (show tK r Y 2 = max (r.tr Y) (r.ts Y) from rfl)
  have hC0 := Lib.hid (show cK r Y 0 = [] from rfl)
  generalize cK r Y = C at *
  generalize tK r Y = TK at *
  generalize r.tr Y = ta at *
  generalize r.ts Y = tb at *
  generalize begY Y = F at *
  generalize begY (Y + 1) = G at *
  obtain ⟨i0i, hi0, hz0, hz1, hz2⟩ := info_parts span_info
  have r1 := Blk.new w 26 (rcA r.b r.c r.d r.p r.q)
  have i1 := i0.alloc (.cells (rcA r.b r.c r.d r.p r.q) 26)
  go_enter Tryd.func101, Tryd.ntmps101
  go_wp2_with (first | refine wpList_row_g rfl 26 _ rfl _ rfl _ _ _ _ r1 Tryd.underlying26 rfl (by kernel_rfl) ?_)
  refine (hto _ i1.1).mono ?_; rintro e w1 ⟨rfl, hbw⟩
  have r2 := r1.below hbw r1.lt
  have i2 := i1.call hbw
  clear r1 i1 hbw hto i0
  go_wp2_with fail
  refine (hb1 _).mono ?_; rintro e wq ⟨rfl, rfl⟩
  go_wp2_with fail
  refine (hb2 _).mono ?_; rintro e wq ⟨rfl, rfl⟩
  have hmx := fun (w : World) ts t => run_max2 (P := Tryd.prog) w ts t ta tb; have hmn := fun (w : World) ts t => run_min2 (P := Tryd.prog) w ts t ta tb
  have r3 := r2.alloc (.cells #[.int .i64 F, .int .i64 (min ta tb), .int .i64 (max ta tb)] 2)
  have i3 := i2.alloc (.cells #[.int .i64 F, .int .i64 (min ta tb), .int .i64 (max ta tb)] 2)
  have t3 := Blk.new w1 2 #[.int .i64 F, .int .i64 (min ta tb), .int .i64 (max ta tb)]
  have own0 : (w1.alloc (.cells #[.int .i64 F, .int .i64 (min ta tb), .int .i64 (max ta tb)] 2)).ownsRow w.heap.size 67 3 (.slice none 0 0) (C 0).length (flatS (C 0)) := by rw [hC0.out]; exact World.ownsRow_nil _ _ _ _
  go_wp2_with fail
  clear hmx hmn hb1 hb2 r2 i2
  generalize w1.alloc (.cells #[.int .i64 F, .int .i64 (min ta tb), .int .i64 (max ta tb)] 2) = W1 at *
  generalize w1.heap.size = gt at *
  have hTC : Hid (∀ k, k < 3 → (#[.int .i64 F, .int .i64 (min ta tb), .int .i64 (max ta tb)] : Array Value)[k]? = some (.int .i64 (TK k))) := Lib.hid (fun k hk => by
    have hk3 : k = 0 ∨ k = 1 ∨ k = 2 := by omega
    rcases hk3 with rfl | rfl | rfl
    · rw [hT0.out]; rfl
    · rw [hT1.out]; rfl
    · rw [hT2.out]; rfl)
  clear hT0 hT1 hT2
  generalize (#[.int .i64 F, .int .i64 (min ta tb), .int .i64 (max ta tb)] : Array Value) = TS at *
  go_loopw [13, 48] (fun v i wr => ∃ k : Nat, i = .int .i64 k ∧ k ≤ 3 ∧ wr.ownsRow w.heap.size 67 3 v (C k).length (flatS (C k)) ∧ Blk wr w.heap.size 26 (rcA r.b r.c r.d r.p r.q) ∧ Blk wr gt 2 TS ∧ Inv w wr) (fun _ i _ => 3 - (intOf i).toNat)
  case atStart => exact ⟨0, rfl, Nat.zero_le _, own0, r3, t3, i3⟩
  case round =>
    clear own0 r3 t3 i3
    obtain ⟨k, rfl, hk', hown, hr, ht, hi⟩ := hrel
    by_cases hlt : k < 3
    · have hlt' : (k : Int) < 3 := by omega
      have ct := ht.cell k
      rw [hTC.out k hlt] at ct
      have hst := hC1.out k
      have hlen := hCL.out k
      generalize TK k = t at *
      obtain ⟨L, hL⟩ : ∃ L, C k = L := ⟨_, rfl⟩
      rw [hL] at hst hlen hown
      clear hL
      obtain ⟨A, cc, rfl, hcc, hS⟩ := own_form hown
      have hown := Lib.hid hown
      have HSK0 := Lib.hid (fun (q : t < F ∨ G ≤ t ∨ (0 < L.length ∧ t = (at_ L (L.length - 1)).f)) => (show C (k + 1) = L by rw [hst]; unfold cS; exact if_pos q))
      have HAD0 := Lib.hid (fun (q : ¬ (t < F ∨ G ≤ t ∨ (0 < L.length ∧ t = (at_ L (L.length - 1)).f))) => (show C (k + 1) = L ++ [r.sp Y t] by rw [hst]; unfold cS; exact if_neg q))
      clear hst
      by_cases c1 : t < F
      · have HSK := Lib.hid (HSK0.out (.inl c1))
        go_wp2_with fail
        go_roundw
        case rel => exact ⟨k + 1, by go_num, by omega, by rw [HSK.out]; exact hown.out, hr, ht, hi⟩
        case measure => simp [intOf]; omega
      · by_cases c2 : G ≤ t
        · have HSK := Lib.hid (HSK0.out (.inr (.inl c2)))
          go_wp2_with fail
          go_roundw
          case rel => exact ⟨k + 1, by go_num, by omega, by rw [HSK.out]; exact hown.out, hr, ht, hi⟩
          case measure => simp [intOf]; omega
        · obtain ⟨N, hN⟩ : ∃ N, L.length = N := ⟨_, rfl⟩
          have HN := Lib.hid hN
          rw [hN] at hlen hcc hS HSK0 HAD0 hown
          rw [hN]
          clear hN
          by_cases h0 : N = 0
          · subst h0
            have hc0 : ¬ (0 : Int) < ((0 : Nat) : Int) := by decide
            have HAD := HAD0.out (by omega)
            clear HAD0 HSK0
            have HST := Lib.hid HAD; clear HAD
            have own0 := hown.out
            obtain ⟨o, ho⟩ : ∃ o, r.off Y t = o := ⟨_, rfl⟩
            obtain ⟨d, hd⟩ : ∃ d, r.sum Y t = d := ⟨_, rfl⟩
            unfold Rc.sp at HST
            rw [ho, hd] at HST
            have hq := hat t
            rw [ho, hd] at hq
            clear ho hd
            go_wp2_with (first | refine wpList_row_g rfl 26 _ rfl _ rfl _ _ _ _ hr Tryd.underlying26 rfl (by kernel_rfl) ?_)
            refine (hq _ hi.1).mono ?_; rintro e w2 ⟨rfl, hb2⟩
            have own1 := own_belw own0 hb2
            have own2 := own1.alloc (.cells (stA0 o d) 43)
            have i2 := (hi.call hb2).alloc (.cells (stA0 o d) 43)
            have r2 := (hr.below hb2 hr.lt).alloc (.cells (stA0 o d) 43)
            have t2 := (ht.below hb2 ht.lt).alloc (.cells (stA0 o d) 43)
            have z2 := Blk.new w2 43 (stA0 o d)
            have zc0 : (w2.alloc (.cells (stA0 o d) 43)).cell? ⟨w2.heap.size, 0, none⟩ = some (.int .i64 o) := z2.cell 0
            have zc1 : (w2.alloc (.cells (stA0 o d) 43)).cell? ⟨w2.heap.size, 1, none⟩ = some (.bool d) := z2.cell 1
            clear own0 own1 hb2 hq hown
            go_wp2_with (first | refine wpList_store_new rfl 43 _ _ rfl rfl w2.heap.size (stA0 o d) rfl rfl _ (stA0 0 false) w2 rfl rfl rfl (by kernel_rfl) (by kernel_rfl) ?_ | (at_builtin; refine wpList_append_any _ rfl (.tmp 83) (.tmp 90) 59 rfl w.heap.size 67 i0i _ 3 24 Tryd.underlying59 hi0 hz0 hz1 hz2 rfl (by decide) _ 0 _ rfl (own2.alloc _) _ _ 1 1 (Sp.A ⟨t, o, d⟩).toList rfl (reads_spn _ _ ⟨t, o, d⟩ (sz1 _ _ rfl)) (sp_one ⟨t, o, d⟩) (by unfold maxLen; omega) (by omega) (by have := i2.2.size; simp at this ⊢; omega) ?_; intro v1 w1 hown1 hg1 _))
            have bB := Below.grown (i2.2.alloc i2.2.size (.cells (Sp.A ⟨t, o, d⟩) 67)) hg1 (i2.2.alloc i2.2.size (.cells (Sp.A ⟨t, o, d⟩) 67)).size (fun g hg => (own_lt3 own2 g hg).1)
            have r3 := (r2.alloc (.cells (Sp.A ⟨t, o, d⟩) 67)).grown hg1 (fun e => own_blk3 (own2.alloc (.cells (Sp.A ⟨t, o, d⟩) 67)) (r2.alloc (.cells (Sp.A ⟨t, o, d⟩) 67)) (by decide) e.symm)
            have t3 := (t2.alloc (.cells (Sp.A ⟨t, o, d⟩) 67)).grown hg1 (fun e => own_blk3 (own2.alloc (.cells (Sp.A ⟨t, o, d⟩) 67)) (t2.alloc (.cells (Sp.A ⟨t, o, d⟩) 67)) (by decide) e.symm)
            go_roundw
            case rel => exact ⟨k + 1, by go_num, by omega, by rw [HST.out]; simp only [List.length_append, flatS_app]; rw [HN.out]; exact hown1, r3, t3, inv_of hT bB⟩
            case measure => simp [intOf]; omega
          · obtain ⟨m, rfl⟩ : ∃ m, N = m + 1 := ⟨N - 1, by omega⟩
            have hc0 : (0 : Int) < ((m + 1 : Nat) : Int) := by omega
            obtain ⟨ad, rfl, r4⟩ := hS.row (k := m) (by omega)
            obtain ⟨q10, q11, q12, q13, q14⟩ := SpAt.of r4
            have i4 : (m : Int) < ((m + 1 : Nat) : Int) := by omega
            have i5 : IntKind.i64.wrap (m : Int) = (m : Int) := by simp [IntKind.wrap, IntKind.bits, IntKind.signed]; omega
            rw [show m + 1 - 1 = m by omega] at HSK0 HAD0
            generalize (at_ L m).f = f' at *
            by_cases hf : t = f'
            · have HSK := Lib.hid (HSK0.out (.inr (.inr ⟨by omega, hf⟩)))
              have hfe : (t == f') = true := by simp [hf]
              clear hf HSK0 HAD0
              go_wp2_with fail
              go_roundw
              case rel => exact ⟨k + 1, by go_num, by omega, by rw [HSK.out, HN.out]; exact hown.out, hr, ht, hi⟩
              case measure => simp [intOf]; omega
            · have HAD := HAD0.out (fun q => q.elim c1 (fun q => q.elim c2 (fun q => hf q.2)))
              have hfe : (t == f') = false := by simp [hf]
              clear hf HSK0 HAD0
              have HST := Lib.hid HAD; clear HAD
              have own0 := hown.out
              obtain ⟨o, ho⟩ : ∃ o, r.off Y t = o := ⟨_, rfl⟩
              obtain ⟨d, hd⟩ : ∃ d, r.sum Y t = d := ⟨_, rfl⟩
              unfold Rc.sp at HST
              rw [ho, hd] at HST
              have hq := hat t
              rw [ho, hd] at hq
              clear ho hd
              go_wp2_with (first | refine wpList_row_g rfl 26 _ rfl _ rfl _ _ _ _ hr Tryd.underlying26 rfl (by kernel_rfl) ?_)
              refine (hq _ hi.1).mono ?_; rintro e w2 ⟨rfl, hb2⟩
              have own1 := own_belw own0 hb2
              have own2 := own1.alloc (.cells (stA0 o d) 43)
              have i2 := (hi.call hb2).alloc (.cells (stA0 o d) 43)
              have r2 := (hr.below hb2 hr.lt).alloc (.cells (stA0 o d) 43)
              have t2 := (ht.below hb2 ht.lt).alloc (.cells (stA0 o d) 43)
              have z2 := Blk.new w2 43 (stA0 o d)
              have zc0 : (w2.alloc (.cells (stA0 o d) 43)).cell? ⟨w2.heap.size, 0, none⟩ = some (.int .i64 o) := z2.cell 0
              have zc1 : (w2.alloc (.cells (stA0 o d) 43)).cell? ⟨w2.heap.size, 1, none⟩ = some (.bool d) := z2.cell 1
              clear own0 own1 hb2 hq hown
              go_wp2_with (first | refine wpList_store_new rfl 43 _ _ rfl rfl w2.heap.size (stA0 o d) rfl rfl _ (stA0 0 false) w2 rfl rfl rfl (by kernel_rfl) (by kernel_rfl) ?_ | (at_builtin; refine wpList_append_any _ rfl (.tmp 83) (.tmp 90) 59 rfl w.heap.size 67 i0i _ 3 24 Tryd.underlying59 hi0 hz0 hz1 hz2 rfl (by decide) _ (m + 1) _ rfl (own2.alloc _) _ _ 1 1 (Sp.A ⟨t, o, d⟩).toList rfl (reads_spn _ _ ⟨t, o, d⟩ (sz1 _ _ rfl)) (sp_one ⟨t, o, d⟩) (by unfold maxLen; omega) (by omega) (by have := i2.2.size; simp at this ⊢; omega) ?_; intro v1 w1 hown1 hg1 _))
              have bB := Below.grown (i2.2.alloc i2.2.size (.cells (Sp.A ⟨t, o, d⟩) 67)) hg1 (i2.2.alloc i2.2.size (.cells (Sp.A ⟨t, o, d⟩) 67)).size (fun g hg => (own_lt3 own2 g hg).1)
              have r3 := (r2.alloc (.cells (Sp.A ⟨t, o, d⟩) 67)).grown hg1 (fun e => own_blk3 (own2.alloc (.cells (Sp.A ⟨t, o, d⟩) 67)) (r2.alloc (.cells (Sp.A ⟨t, o, d⟩) 67)) (by decide) e.symm)
              have t3 := (t2.alloc (.cells (Sp.A ⟨t, o, d⟩) 67)).grown hg1 (fun e => own_blk3 (own2.alloc (.cells (Sp.A ⟨t, o, d⟩) 67)) (t2.alloc (.cells (Sp.A ⟨t, o, d⟩) 67)) (by decide) e.symm)
              go_roundw
              case rel => exact ⟨k + 1, by go_num, by omega, by rw [HST.out]; simp only [List.length_append, flatS_app]; rw [HN.out]; exact hown1, r3, t3, inv_of hT bB⟩
              case measure => simp [intOf]; omega
    · obtain rfl : k = 3 := by omega
      have hlt' : ¬ ((3 : Nat) : Int) < 3 := by omega
      obtain ⟨A, cc, rfl, hcc, hS⟩ := own_form hown
      have htd := fun w' (hb : Below wr.heap.size wr w') => rtidy_any A (C 3).length cc (C 3) w' ((hS.below hb).more hb.size) (hCL.out 3)
      obtain ⟨L, hL⟩ : ∃ L, C 3 = L := ⟨_, rfl⟩
      rw [hL] at htd hown hcc hS ⊢
      have HL3 := Lib.hid hL; clear hL
      go_wp2_with fail
      refine (htd _ (Below.refl _ _)).mono ?_; rintro e w5 ⟨A', n', c', rfl, hS', hn3, hnc, hb5⟩
      go_wp2_with fail
      go_ret2
      exact ⟨A', n', c', rfl, by rw [HL3.out]; exact hS', hn3, hnc, hi.2.trans (hb5.mono hi.2.size)⟩
end Go.Proofs.YtefcjccapekjdaaDoor.Ft
