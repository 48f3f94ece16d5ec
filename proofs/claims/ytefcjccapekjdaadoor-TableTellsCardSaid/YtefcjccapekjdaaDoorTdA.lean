/-
  SPANS TIDIED, the reference, walked.
-/
import Derived.Test.YtefcjccapekjdaaDoorFtL
import Derived.Test.YtefcjccapekjdaaDoorSpE
import Derived.Test.YtefcjccapekjdaaDoorCvR
import Derived.BigQuiet
namespace Go.Proofs.YtefcjccapekjdaaDoor.Ft
open Go.ChangeShapes Go.WideShapes Go.ChangeAt Go.RowKit
open Go.Proofs.YtefcjccapekjdaaDoor
open Go.Proofs.YtefcjccapekjdaaDoor.Wd
open Go.Proofs.YtefcjccapekjdaaDoor.Rec
open Go.Proofs.YtefcjccapekjdaaDoor.Yr
open Go.Proofs.YtefcjccapekjdaaDoor.Tb
open Go.Proofs.YtefcjccapekjdaaDoor.Clk (yrV yrE)
open Go.Proofs.YtefcjccapekjdaaDoor.Civ (Tab Inv)
set_option linter.unusedVariables false
theorem rbegin_any (Y : Int) (w : World) (h1 : 1 ≤ Y) (h2 : Y ≤ 10000) :
    Calls Tryd.prog 132 #[.int .i64 Y] w fun e w' => e = .returned (.tuple #[.int .i64 (begY Y), .int .i64 0]) ∧ w = w' := by
  have hf := fun w => Civ.rfir_any Y w
  have e := (Cal.okF_iff Y).2 ⟨h1, h2⟩
  unfold Cal.firV Cal.firE at hf
  simp only [if_pos e] at hf
  have hb : -719162 ≤ Cal.first Y ∧ Cal.first Y ≤ 2932897 := by unfold Cal.first; omega
  have hB := Lib.hid (show begY Y = Cal.first Y * 86400 from rfl)
  obtain ⟨b1, b2⟩ := hb
  clear e
  generalize Cal.first Y = F at *
  go_enter Tryd.func132, Tryd.ntmps132
  go_wp2_with fail
  refine (hf _).mono ?_; rintro e wq ⟨rfl, rfl⟩
  go_wp2_with fail
  go_ret2
  exact ⟨by rw [hB.out]; rfl, rfl⟩
set_option maxHeartbeats 1600000 in
theorem ralike_any (a b : Sp) (w : World) :
    Calls Tryd.prog 146 #[a.V, b.V] w fun e w' => e = .returned (.bool (alk a b)) ∧ Below w.heap.size w w' := by
  obtain ⟨af, ao, ad⟩ := a
  obtain ⟨bf, bo, bd⟩ := b
  have hb : Below w.heap.size w ((w.alloc (.cells #[.int .i64 af, .int .i64 ao, .bool ad] 67)).alloc (.cells #[.int .i64 bf, .int .i64 bo, .bool bd] 67)) := ((Below.refl _ _).alloc (Nat.le_refl _) _).alloc (by simp) _
  cases h1 : ao == bo
  · have HV := Lib.hid (show alk ⟨af, ao, ad⟩ ⟨bf, bo, bd⟩ = false by unfold alk; simp only [h1]; rfl)
    go_enter Tryd.func146, Tryd.ntmps146
    go_wp2
    go_ret
    exact ⟨by rw [HV.out]; rfl, hb⟩
  · have HV := Lib.hid (show alk ⟨af, ao, ad⟩ ⟨bf, bo, bd⟩ = (ad == bd) by unfold alk; simp only [h1]; simp)
    go_enter Tryd.func146, Tryd.ntmps146
    go_wp2
    go_ret
    exact ⟨by rw [HV.out]; rfl, hb⟩
def tdK (l : List Sp) : Nat → List Sp
  | 0 => []
  | k + 1 => if k = 0 ∨ alk (at_ l k) (at_ l (k - 1)) = false then tdK l k ++ [at_ l k] else tdK l k
def tidyL (l : List Sp) : List Sp := tdK l l.length
theorem tdK_len (l : List Sp) (k : Nat) : (tdK l k).length ≤ k := by
  induction k with
  | zero => exact Nat.le_refl _
  | succ k ih =>
    show (if _ then _ else _ : List Sp).length ≤ _
    split
    · rw [List.length_append]; show _ + 1 ≤ _; omega
    · omega
theorem own_belw {w w' : World} {base : Nat} {e : TypeId} {size : Nat} {v : Value} {n : Nat} {xs : List Value} (h : w.ownsRow base e size v n xs) (hb : Below w.heap.size w w') : w'.ownsRow base e size v n xs := own_bel3 h _ hb
set_option maxRecDepth 100000 in
set_option maxHeartbeats 6400000 in
theorem rtidy_any (A : Option Addr) (n c : Nat) (l : List Sp) (w : World) (hs : Spans w w.heap.size A n l) (hn : n ≤ 3) :
    Calls Tryd.prog 133 #[.slice A n c] w fun e w' => ∃ A' n' c', e = .returned (.slice A' n' c') ∧ Spans w' w'.heap.size A' n' (tidyL l) ∧ n' ≤ 3 ∧ n' ≤ c' ∧ Below w.heap.size w w' := by
  have hln := hs.1
  obtain ⟨i0i, hi0, hz0, hz1, hz2⟩ := info_parts span_info
  go_enter Tryd.func133, Tryd.ntmps133
  go_wp2_with fail
  have hown0 := World.ownsRow_nil w w.heap.size 67 3
  go_loopw [8, 3] (fun i v wr => ∃ k : Nat, i = .int .i64 k ∧ k ≤ n ∧ wr.ownsRow w.heap.size 67 3 v (tdK l k).length (flatS (tdK l k)) ∧ Below w.heap.size w wr) (fun i _ _ => n - (intOf i).toNat)
  case atStart => exact ⟨0, rfl, Nat.zero_le _, hown0, Below.refl _ _⟩
  case round =>
    clear hown0
    obtain ⟨k, rfl, hk, hown, hb⟩ := hrel
    by_cases hlt : k < n
    · have hlt' : (k : Int) < (n : Int) := by omega
      obtain ⟨ad, rfl, r1⟩ := (hs.below hb).row hlt
      have hlen := tdK_len l k
      have hst : tdK l (k + 1) = if k = 0 ∨ alk (at_ l k) (at_ l (k - 1)) = false then tdK l k ++ [at_ l k] else tdK l k := rfl
      by_cases hk0 : k = 0
      · subst hk0
        rw [if_pos (.inl rfl)] at hst
        have HST := Lib.hid hst; clear hst
        obtain ⟨a, eA⟩ : ∃ a, at_ l 0 = a := ⟨_, rfl⟩
        rw [eA] at r1 HST
        clear eA
        obtain ⟨Lk, hLk⟩ : ∃ L, tdK l 0 = L := ⟨_, rfl⟩
        rw [hLk] at hown HST hlen
        clear hLk
        have hd0 : ((((0 : Nat) : Int)) == 0) = true := by decide
        go_wp2_with (refine wpList_at_g rfl 67 _ rfl w.heap.size _ a.A rfl _ r1 Tryd.underlying67 rfl (by kernel_rfl) ?_)
        go_quiet ((go_at_call 0))
        have hb1 := bdN (hb.alloc hb.size (.cells a.A 67)) nq
        have own1 := own_belw hown (bdN ((Below.refl wr.heap.size wr).alloc (Nat.le_refl _) (.cells a.A 67)) nq)
        have z1 : Blk ((wr.alloc (.cells a.A 67)).drewN nq) wr.heap.size 67 a.A := (Blk.new wr 67 a.A).drewN nq
        generalize (wr.alloc (.cells a.A 67)).drewN nq = W at *
        go_wp2_with (first | refine wpList_row_g rfl 67 _ rfl _ rfl _ _ _ _ z1 Tryd.underlying67 rfl (by kernel_rfl) ?_ | (at_builtin; refine wpList_append_any _ rfl (.tmp 25) (.tmp 27) 59 rfl w.heap.size 67 i0i _ 3 24 Tryd.underlying59 hi0 hz0 hz1 hz2 rfl (by decide) _ Lk.length _ rfl (own1.alloc _) _ _ 1 1 (Sp.A a).toList rfl (reads_spn _ _ a rfl) (sp_one a) (by unfold maxLen; omega) (by omega) (by have := hb1.size; simp at this ⊢; omega) ?_; intro v1 w1 hown1 hg1 _))
        have bB := Below.grown (hb1.alloc hb1.size (.cells a.A 67)) hg1 (hb1.alloc hb1.size (.cells a.A 67)).size (fun g hg => (own_lt3 own1 g hg).1)
        go_roundw
        case rel => exact ⟨1, by go_num, by omega, by rw [HST.out]; simp only [List.length_append, flatS_app]; exact hown1, bB⟩
        case measure => simp [intOf]; omega
      · obtain ⟨k, rfl⟩ : ∃ m, k = m + 1 := ⟨k - 1, by omega⟩
        rw [show ((k + 1 : Nat) : Int) = (k : Int) + 1 from by push_cast; rfl] at *
        obtain ⟨ad', e, r2⟩ := (hs.below hb).row (k := k) (by omega)
        obtain rfl : ad = ad' := Option.some.inj e
        rw [show k + 1 - 1 = k by omega] at hst
        obtain ⟨b, eB⟩ : ∃ b, at_ l (k + 1) = b := ⟨_, rfl⟩
        obtain ⟨a, eA⟩ : ∃ a, at_ l k = a := ⟨_, rfl⟩
        rw [eB] at r1 hst
        rw [eA] at r2 hst
        clear eA eB
        obtain ⟨Lk, hLk⟩ : ∃ L, tdK l (k + 1) = L := ⟨_, rfl⟩
        rw [hLk] at hown hst hlen
        clear hLk
        have hd0 : (((k : Int) + 1) == 0) = false := by simp; omega
        have hsub : IntKind.i64.wrap (k : Int) = (k : Int) := by simp [IntKind.wrap, IntKind.bits, IntKind.signed]; omega
        have i3 : (0 : Int) ≤ (k : Int) := by omega
        have i4 : (k : Int) < (n : Int) := by omega
        have i5 : (0 : Int) ≤ (k : Int) + 1 := by omega
        have i6 : ((k : Int) + 1).toNat = k + 1 := by omega
        have i7 : (k : Int) + 1 < (n : Int) := by omega
        have hAL := Lib.hid (fun w' => ralike_any b a w')
        have own1 := own_belw hown ((Below.refl wr.heap.size wr).alloc (Nat.le_refl _) (.cells b.A 67))
        have bW := hb.alloc hb.size (.cells b.A 67)
        have z1 := Blk.new wr 67 b.A
        have r3 := r2.below ((Below.refl w.heap.size wr).alloc hb.size (.cells b.A 67))
        go_upto_region 5 with (refine wpList_at_g rfl 67 _ rfl w.heap.size _ b.A rfl _ r1 Tryd.underlying67 rfl (by kernel_rfl) ?_)
        generalize wr.alloc (.cells b.A 67) = W at *
        generalize wr.heap.size = gz at *
        clear hb hown r1 r2
        have c0 : W.cell? ⟨gz, 0, none⟩ = some (.int .i64 b.f) := z1.cell 0
        have c1 : W.cell? ⟨gz, 1, none⟩ = some (.int .i64 b.o) := z1.cell 1
        have c2 : W.cell? ⟨gz, 2, none⟩ = some (.bool b.d) := z1.cell 2
        obtain ⟨q10, q11, q12, q13, q14⟩ := SpAt.of r3
        have hWW := Below.refl W.heap.size W
        cases hal : alk b a with
        | true =>
          have HST := Lib.hid (show tdK l (k + 1 + 1) = Lk by rw [hst, if_neg (by rw [hal]; simp)])
          clear hst
          first | (go_region_held3 (fun w' => Below W.heap.size W w' ∧ w'.cell? ⟨gz, 0, none⟩ = some (.int .i64 b.f) ∧ w'.cell? ⟨gz, 1, none⟩ = some (.int .i64 b.o) ∧ w'.cell? ⟨gz, 2, none⟩ = some (.bool b.d) ∧ w'.cell? (ad.add (k * 3)) = some (.int .i64 a.f) ∧ w'.cell? ((ad.add (k * 3)).add 1) = some (.int .i64 a.o) ∧ w'.cell? ((ad.add (k * 3)).add 2) = some (.bool a.d) ∧ w'.cell? ⟨(ad.add (k * 3)).block, (ad.add (k * 3)).off + 1, none⟩ = some (.int .i64 a.o) ∧ w'.cell? ⟨(ad.add (k * 3)).block, (ad.add (k * 3)).off + 2, none⟩ = some (.bool a.d)) (first | assumption | (go_split_ands; (refine ⟨?_, ?_, ?_, ?_, ?_, ?_, ?_, ?_, ?_⟩ <;> first | assumption | exact (hbx.cell (World.block_lt_of_cell? _ _ (by assumption))).trans (by assumption) | exact Below.trans (by assumption) (hbx.mono (Below.size (by assumption))) | exact Below.drew (by assumption)))) (first | (go_at_call 146; refine (hAL.out _).mono ?_; rintro e w' ⟨rfl, hbx⟩; rw [hal]))) | fail
          all_goals
            go_split_ands
            rename Below W.heap.size W _ => hbz
            go_wp2_with fail
            go_roundw
            case rel => exact ⟨k + 1 + 1, by go_num, by omega, by rw [HST.out]; exact own_belw own1 hbz, bW.trans (hbz.mono bW.size)⟩
            case measure => simp [intOf]; omega
        | false =>
          have HST := Lib.hid (show tdK l (k + 1 + 1) = Lk ++ [b] by rw [hst, if_pos (.inr hal)])
          clear hst
          first | (go_region_held3 (fun w' => Below W.heap.size W w' ∧ w'.cell? ⟨gz, 0, none⟩ = some (.int .i64 b.f) ∧ w'.cell? ⟨gz, 1, none⟩ = some (.int .i64 b.o) ∧ w'.cell? ⟨gz, 2, none⟩ = some (.bool b.d) ∧ w'.cell? (ad.add (k * 3)) = some (.int .i64 a.f) ∧ w'.cell? ((ad.add (k * 3)).add 1) = some (.int .i64 a.o) ∧ w'.cell? ((ad.add (k * 3)).add 2) = some (.bool a.d) ∧ w'.cell? ⟨(ad.add (k * 3)).block, (ad.add (k * 3)).off + 1, none⟩ = some (.int .i64 a.o) ∧ w'.cell? ⟨(ad.add (k * 3)).block, (ad.add (k * 3)).off + 2, none⟩ = some (.bool a.d)) (first | assumption | (go_split_ands; (refine ⟨?_, ?_, ?_, ?_, ?_, ?_, ?_, ?_, ?_⟩ <;> first | assumption | exact (hbx.cell (World.block_lt_of_cell? _ _ (by assumption))).trans (by assumption) | exact Below.trans (by assumption) (hbx.mono (Below.size (by assumption))) | exact Below.drew (by assumption)))) (first | (go_at_call 146; refine (hAL.out _).mono ?_; rintro e w' ⟨rfl, hbx⟩; rw [hal]))) | fail
          all_goals
            go_split_ands
            rename Below W.heap.size W _ => hbz
            rename World => V
            have z2 := z1.below hbz z1.lt
            have own2 := own_belw own1 hbz
            have bV := bW.trans (hbz.mono bW.size)
            go_wp2_with (first | refine wpList_row_g rfl 67 _ rfl _ rfl _ _ _ _ z2 Tryd.underlying67 rfl (by kernel_rfl) ?_ | (at_builtin; refine wpList_append_any _ rfl (.tmp 25) (.tmp 27) 59 rfl w.heap.size 67 i0i _ 3 24 Tryd.underlying59 hi0 hz0 hz1 hz2 rfl (by decide) _ Lk.length _ rfl (own2.alloc _) _ _ 1 1 (Sp.A b).toList rfl (reads_spn _ _ b rfl) (sp_one b) (by unfold maxLen; omega) (by omega) (by have := bV.size; simp at this ⊢; omega) ?_; intro v1 w1 hown1 hg1 _))
            have bB := Below.grown (bV.alloc bV.size (.cells b.A 67)) hg1 (bV.alloc bV.size (.cells b.A 67)).size (fun g hg => (own_lt3 own2 g hg).1)
            go_roundw
            case rel => exact ⟨k + 1 + 1, by go_num, by omega, by rw [HST.out]; simp only [List.length_append, flatS_app]; exact hown1, bB⟩
            case measure => simp [intOf]; omega
    · obtain rfl : n = k := by omega
      have hlt' : ¬ (n : Int) < (n : Int) := by omega
      have hT := Lib.hid (show tidyL l = tdK l n by unfold tidyL; rw [hln])
      have hlen := tdK_len l n
      have hform : ∃ (A' : Option Addr) (c' : Nat), u3 = .slice A' (tdK l n).length c' ∧ (tdK l n).length ≤ c' ∧ Spans wr wr.heap.size A' (tdK l n).length (tdK l n) := by
        by_cases h0 : (tdK l n).length = 0
        · rcases hown.2 with ⟨hv, _⟩ | ⟨g, cap, cur, hv, h2, h3, h4, h5⟩
          · exact ⟨none, 0, by rw [hv, h0], by omega, rfl, by rw [List.eq_nil_of_length_eq_zero h0]; exact Reads.none_⟩
          · subst hv; exact ⟨some ⟨g, 0, none⟩, cap, rfl, by omega, rfl, Reads.of_own hown⟩
        · obtain ⟨g, cm, rfl, hg, hnc⟩ := own_form3 hown (by omega)
          exact ⟨some ⟨g, 0, none⟩, cm, rfl, hnc, rfl, Reads.of_own hown⟩
      obtain ⟨A', c', rfl, hc', hS⟩ := hform
      clear hown
      generalize tdK l n = R at *
      go_wp2_with fail
      go_ret
      exact ⟨A', R.length, c', rfl, by rw [hT.out]; exact hS, by omega, hc', hb⟩
end Go.Proofs.YtefcjccapekjdaaDoor.Ft
