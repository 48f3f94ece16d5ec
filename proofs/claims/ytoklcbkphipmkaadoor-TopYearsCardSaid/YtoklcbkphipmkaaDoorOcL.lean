/-
  THE OCCURRENCES OF SOME YEARS: occur.Of, walked: how many they are.
-/
import Derived.Test.YtoklcbkphipmkaaDoorOcP
namespace Go.Proofs.YtoklcbkphipmkaaDoor.Oc
open Go.ChangeShapes Go.WideShapes Go.ChangeAt Go.RowKit
open Go.Proofs.YtoklcbkphipmkaaDoor
open Go.Proofs.YtoklcbkphipmkaaDoor.Wd
open Go.Proofs.YtoklcbkphipmkaaDoor.Sr
open Go.Proofs.YtoklcbkphipmkaaDoor.Sl
open Go.Proofs.YtoklcbkphipmkaaDoor.Civ (Tab)
open Go.Proofs.YtoklcbkphipmkaaDoor.Va (bal bcl)
set_option linter.unusedVariables false
set_option linter.unusedSimpArgs false
/-- a list's own block -/
abbrev Xv (v : Value) : Nat → Prop := fun b => v.ownBlock = some b
section
variable {w w' : World} {base p mb n c pn pc : Nat} {A PA : Option Addr} {rs : List Ru}
/-- an almanac that does not use a list's block, when the list grows -/
theorem Alm.app {v v' : Value} {B sz m : Nat} {t : TypeId} {xs : List Value} (h : Alm w (Xv v) base p mb n c A PA pn pc rs) (o : w'.ownsRow B t sz v' m xs) (hg : w.grownBy w' v.ownBlock) (hv : v'.ownBlock = v.ownBlock ∨ v'.ownBlock = some w.heap.size) : Alm w' (Xv v') base p mb n c A PA pn pc rs := by
  have kp : Kp (Xv v) w w' := Kp.grown hg (fun k e => e)
  rcases hv with e | e
  · exact (h.kp kp).less (fun b q => by show v.ownBlock = some b; rw [← e]; exact q)
  · have := h.wide kp (Y := fun b => b = w.heap.size) (fun b q => ⟨Nat.le_of_eq q.symm, by subst q; exact (own_ge o _ e).2⟩)
    exact this.less (fun b q => .inr (by rw [show v'.ownBlock = some b from q] at e; injection e))
theorem own_but {B sz m : Nat} {t : TypeId} {v : Value} {xs : List Value} (h : w.ownsRow B t sz v m xs) (hm : IsMap w mb) (hb : But mb w.heap.size w w') : w'.ownsRow B t sz v m xs :=
  own_of_heap h fun g hg => hb.block g (own_ge h g hg).2 (by
    rintro rfl
    obtain ⟨es, cl, hm⟩ := hm
    rcases h.2 with ⟨rfl, _⟩ | ⟨g', cap, cur, rfl, _, hh, _⟩
    · simp [Value.ownBlock] at hg
    · have : g' = g := by simpa [Value.ownBlock] using hg
      subst this
      rw [hm] at hh; cases hh)
end
theorem sort_alm (rs : List Ru) (L : List Pe) (A : Option Addr) (c B : Nat) (w : World) (ho : w.ownsRow B 80 7 (.slice A L.length c) L.length (flat (evC rs) L)) (hl : L.length ≤ 1000000) :
    Calls Tryd.prog 27 #[.slice A L.length c, .func (.func 28) #[] #[]] w fun e w' => e = .returned (.tuple #[]) ∧
      ∃ L' : List Pe, L'.Perm L ∧ Sls (evC rs) 7 w' w'.heap.size A L.length L' ∧ Kp (Xv (.slice A L.length c)) w w' ∧ ∀ B', B' ≤ B → B' ≤ w.heap.size → Below B' w w' := by
  by_cases h0 : L.length = 0
  · have hL : L = [] := List.eq_nil_of_length_eq_zero h0
    subst hL
    refine (Tryd.sort_none A c _ w).mono ?_
    rintro e w' ⟨rfl, rfl⟩
    exact ⟨rfl, [], List.Perm.refl _, Sls.of_own rfl ho, Kp.of (Below.refl _ _), fun _ _ _ => Below.refl _ _⟩
  · have hS := Sls.of_own rfl ho
    obtain ⟨g, cap, hA, hbg, hlt⟩ := ho.form (by omega)
    have hA2 : A = some ⟨g, 0, none⟩ := by injection hA
    subst hA2
    have hf : ∀ i, w.frozen? ⟨g, i, none⟩ = false := by
      rcases ho.2 with ⟨q, _⟩ | ⟨g', cap', cur, q, _, hh, _⟩
      · cases q
      · injection q with q; injection q with q; injection q with q
        subst q
        exact fun i => Blk.frozen (show Blk w _ _ cur from hh) i
    refine (sort_any rs g c L w hS (by omega) hlt hf hl).mono ?_
    rintro e w' ⟨rfl, L', h1, h2, h3, h4⟩
    exact ⟨rfl, L', h1, h3, ⟨h4.size, fun k hk hx => h4.block k hk (fun e => hx (by rw [e]; rfl))⟩, fun B' hB hw => h4.below (Nat.le_trans hB hbg) hw⟩
/-- what Of answers: how many -/
def OfQ (w : World) (rs : List Ru) (lo hi : Int) (e : Ending) (w' : World) : Prop :=
  Below w.heap.size w w' ∧ ∃ g k N : Nat, e = .returned (.tuple #[.slice (some ⟨g, 0, none⟩) N N, .int .i64 0]) ∧ k ≤ (pls rs).length ∧ N = k + sumY rs lo (hi + 1 - lo).toNat
set_option maxRecDepth 100000 in
set_option maxHeartbeats 25600000 in
theorem Of_any (A : Option Addr) (n c : Nat) (rs : List Ru) (lo hi : Int) (w : World) (hS : Sls Ru.C 11 w w.heap.size A n rs) (hb : ∀ r ∈ rs, r.Bd) (hn : n ≤ 100) (hT : Tab w) (hok : Ok rs) (hlo : 1 ≤ lo) (hhi : hi ≤ 9999) (hle : lo ≤ hi) (hd : hi - lo ≤ 100) :
    Calls Tryd.prog 12 #[.slice A n c, .int .i64 lo, .int .i64 hi] w (OfQ w rs lo hi) := by
  have hof := of_any A n c rs w hS hb (by omega) hT
  have h1 : ¬ lo < 1 := by omega
  have h2 : ¬ 9999 < hi := by omega
  have h3 : ¬ hi < lo := by omega
  have hrl := hS.len
  have wl : IntKind.i64.wrap (lo - 1) = lo - 1 := by simp [IntKind.wrap, IntKind.bits, IntKind.signed]; omega
  obtain ⟨i0, hi0, hz0, hz1, hz2⟩ := info_parts info_ev
  have HI := Lib.hid hi0; clear hi0
  go_enter Tryd.func12, Tryd.ntmps12
  go_wp2_with fail
  refine hof.mono ?_; rintro e w1 ⟨b1, q⟩
  rcases q with ⟨_, p, mb, pc, PA, rfl, al⟩ | ⟨q, _⟩
  rotate_left
  · exact absurd hok q
  clear hof
  have HOK := Lib.hid hok; have HBD := Lib.hid hb; clear hok hb hT hS
  obtain ⟨pn, hpn⟩ : ∃ pn, (pls rs).length = pn := ⟨_, rfl⟩
  rw [hpn] at al
  have HPN := Lib.hid hpn; clear hpn
  go_upto_region 7 with fail
  have c1 : w1.cell? ⟨p, 1, none⟩ = some (.slice PA pn pc) := al.f.cell 1
  have hpnn := al.pnn
  go_upto_region 8 with fail
  clear c1
  go_loopw [10, 12, 13, 14, 15, 16, 41] (fun v _ _ _ _ _ i wr => ∃ (k : Nat) (L : List Pe), i = .int .i64 (k : Int) ∧ k ≤ pn ∧ L.length ≤ k ∧ (∀ e ∈ L, Occ rs e) ∧ wr.ownsRow w1.heap.size 80 7 v L.length (flat (evC rs) L) ∧ Below w1.heap.size w1 wr) (fun _ _ _ _ _ _ i _ => pn - (intOf i).toNat)
  case atStart => exact ⟨0, [], rfl, Nat.zero_le _, Nat.le_refl _, fun e h => (by cases h), ⟨rfl, .inl ⟨rfl, rfl⟩⟩, Below.refl _ _⟩
  case round =>
    obtain ⟨k, L, rfl, hk, hL, hO, o, b⟩ := hrel
    have HO := Lib.hid hO; clear hO
    have al2 := al.below b
    by_cases hlt : k < pn
    · have hltI : (k : Int) < (pn : Int) := by omega
      obtain ⟨pd, eA, hprow⟩ := al2.pl.row (fun _ => rfl) 0 hlt
      subst eA
      obtain ⟨i, hi'⟩ : ∃ i, (pls rs).getD k 0 = i := ⟨_, rfl⟩
      have hkl : k < (pls rs).length := by rw [al.pl.len]; exact hlt
      have him : i ∈ pls rs := by rw [← hi']; exact getD_mem (L := pls rs) 0 hkl
      have hin : i < n := by rw [← hrl]; exact pls_lt him
      have HIM := Lib.hid him; clear him
      rw [hi'] at hprow
      clear hi' hkl
      have hiI : (i : Int) < (n : Int) := by omega
      obtain ⟨ad, eA, hrow⟩ := al2.r.row (fun _ => rfl) Ru.nil hin
      subst eA
      have hro := HOK.out.at_ (i := i) (by omega)
      have hbd := HBD.out _ (getD_mem (L := rs) Ru.nil (show i < rs.length by omega))
      have HBI := Lib.hid hbd; clear hbd
      have hfr := hro.ye
      obtain ⟨r, hr1⟩ : ∃ r, ru_ rs i = r := ⟨_, rfl⟩
      rw [show rs.getD i Ru.nil = r from hr1] at hrow
      rw [hr1] at hfr
      clear hr1 hro
      have c0 : wr.cell? ⟨p, 0, none⟩ = some (.slice (some ad) n c) := al2.f.cell 0
      have cp : wr.cell? (pd.add k) = some (.int .i64 (i : Int)) := by
        have := row_c0 hprow (v := .int .i64 (i : Int)) rfl
        rwa [Nat.mul_one] at this
      have hb1 := bal (Below.refl _ wr) (.cells r.C 42)
      have b2 := bcl b hb1; have y2 := Blk.new wr 42 r.C; have o2 := own_below o hb1
      go_upto_region 11 with (first | (refine wpList_at_g rfl 42 _ rfl _ _ r.C rfl _ hrow Tryd.underlying42 rfl (by kernel_rfl) ?_) | (refine wpList_store_new rfl 42 _ _ rfl rfl wr.heap.size r.C rfl rfl _ ruZ wr rfl rfl rfl (by kernel_rfl) (by kernel_rfl) ?_))
      clear hrow hprow c0 cp o b hb1 al2
      generalize wr.alloc (.cells r.C 42) = V at *
      obtain ⟨q, hq⟩ : ∃ q, wr.heap.size = q := ⟨_, rfl⟩
      simp only [hq] at y2 ⊢
      clear hq
      have d2 : V.cell? ⟨q, 2, none⟩ = some (.int .i64 r.tt) := y2.cell 2
      go_upto_region 12 with fail
      clear d2
      generalize u10 = v at *
      go_loopw [10, 14, 15, 16] (fun v' yy _ _ wr => v' = v ∧ ∃ y : Int, yy = .int .i64 y ∧ 0 ≤ y ∧ y ≤ 9999 ∧ wr.ownsRow w1.heap.size 80 7 v L.length (flat (evC rs) L) ∧ Below w1.heap.size w1 wr ∧ Blk wr q 42 r.C) (fun _ yy _ _ _ => (intOf yy).toNat)
      case atStart => exact ⟨rfl, _, rfl, by (try split) <;> omega, by (try split) <;> omega, o2, b2, y2⟩
      case round =>
        clear o2 b2 y2
        obtain ⟨rfl, y, rfl, hy0, hy9, o, b, x⟩ := hrel
        have d1 : wr.cell? ⟨q, 1, none⟩ = some (.int .i64 r.fr) := x.cell 1
        by_cases hge : r.fr ≤ y
        · have al3 := al.below b
          have hat := at_any _ p i n c _ rs _ _ y wr al3.f al3.r al3.bw hin HBI.out al3.t
          clear al3
          obtain ⟨xs, hxs⟩ : ∃ xs, flat (evC rs) L = xs := ⟨_, rfl⟩
          obtain ⟨N, hN⟩ : ∃ N, L.length = N := ⟨_, rfl⟩
          rw [hxs, hN] at o
          rw [hN] at hL
          have HXS := Lib.hid hxs; have HNN := Lib.hid hN; clear hxs hN
          by_cases hoc : occB rs y i = true
          · rw [show atR rs y i = .tuple #[.agg (evC rs (i, y)), .bool true] from if_pos hoc] at hat
            have hoo := of_decide_eq_true hoc
            have HOC := Lib.hid (show Occ rs (i, y) from ⟨HIM.out, ⟨hoo.1, hoo.2.1⟩, hoo.2.2⟩)
            clear hoo hoc
            obtain ⟨T, K, S, LT, hE⟩ : ∃ T K S LT, evC rs (i, y) = #[.int .i64 T, .int .u8 K, .int .i64 S, .int .i64 0, .string LT, .int .i64 (i : Int), .int .i64 y] := ⟨_, _, _, _, rfl⟩
            rw [hE] at hat
            have HE := Lib.hid hE; clear hE
            go_upto_region 15 with (first | (refine wpList_store_new rfl 80 _ _ rfl rfl _ (#[.int .i64 T, .int .u8 K, .int .i64 S, .int .i64 0, .string LT, .int .i64 (i : Int), .int .i64 y]) rfl rfl _ evZ _ rfl rfl rfl (by kernel_rfl) (by simp [Value.oneCell']) ?_) | (go_at_call 26; refine hat.mono ?_; rintro e W2 ⟨rfl, hb2⟩))
            have o2 := own_below o hb2; have b2 := b.trans (hb2.mono b.size)
            clear hb2 o b hat x d1
            have o3 := o2.alloc (.cells (#[.int .i64 T, .int .u8 K, .int .i64 S, .int .i64 0, .string LT, .int .i64 (i : Int), .int .i64 y]) 80); have b3 := b2.alloc b2.size (.cells (#[.int .i64 T, .int .u8 K, .int .i64 S, .int .i64 0, .string LT, .int .i64 (i : Int), .int .i64 y]) 80); have y3 := Blk.new W2 80 (#[.int .i64 T, .int .u8 K, .int .i64 S, .int .i64 0, .string LT, .int .i64 (i : Int), .int .i64 y])
            clear o2 b2
            generalize W2.alloc (.cells (#[.int .i64 T, .int .u8 K, .int .i64 S, .int .i64 0, .string LT, .int .i64 (i : Int), .int .i64 y]) 80) = W3 at *
            obtain ⟨q3, hq3⟩ : ∃ q, W2.heap.size = q := ⟨_, rfl⟩
            simp only [hq3] at y3 ⊢
            clear hq3
            have o4 := o3.alloc (.cells (#[.int .i64 T, .int .u8 K, .int .i64 S, .int .i64 0, .string LT, .int .i64 (i : Int), .int .i64 y]) 80); have b4 := b3.alloc b3.size (.cells (#[.int .i64 T, .int .u8 K, .int .i64 S, .int .i64 0, .string LT, .int .i64 (i : Int), .int .i64 y]) 80)
            have hnew := Reads.of_own (w := W3.alloc (.cells (#[.int .i64 T, .int .u8 K, .int .i64 S, .int .i64 0, .string LT, .int .i64 (i : Int), .int .i64 y]) 80)) (base := 0) (e := 80) (size := 7) (A := some ⟨W3.heap.size, 0, none⟩) (n := 1) (c := 1) (xs := (#[.int .i64 T, .int .u8 K, .int .i64 S, .int .i64 0, .string LT, .int .i64 (i : Int), .int .i64 y] : Array Value).toList) ⟨rfl, .inr ⟨W3.heap.size, 1, #[.int .i64 T, .int .u8 K, .int .i64 S, .int .i64 0, .string LT, .int .i64 (i : Int), .int .i64 y], rfl, Nat.zero_le _, heap_alloc_new W3 _, Nat.le_refl _, by unfold maxLen; omega, rfl, rfl⟩⟩
            have hone : ∀ u ∈ (#[.int .i64 T, .int .u8 K, .int .i64 S, .int .i64 0, .string LT, .int .i64 (i : Int), .int .i64 y] : Array Value).toList, u.oneCell' = true := by
              intro u hu; simp at hu; rcases hu with rfl | rfl | rfl | rfl | rfl | rfl | rfl <;> rfl
            have B4 := Lib.hid b4.size
            have HONE := Lib.hid hone; clear hone
            go_wp2_with (first | (refine wpList_row_g rfl 80 _ rfl _ rfl _ _ _ _ y3 Tryd.underlying80 rfl (by kernel_rfl) ?_) | (at_builtin; refine wpList_append_any _ rfl _ _ 73 rfl w1.heap.size 80 i0 _ 7 64 Tryd.underlying73 HI.out hz0 hz1 hz2 rfl (by decide) _ N _ rfl o4 _ _ 1 1 _ rfl hnew HONE.out (by unfold maxLen; omega) (by omega) B4.out ?_; intro v5 w5 o5 g5 _; have HG := Lib.hid g5; clear g5))
            have b5 := b4.grown HG.out B4.out (fun k e => (own_ge o4 k e).1)
            have HR := Lib.hid (show w5.ownsRow w1.heap.size 80 7 v5 (L ++ [((i, y) : Pe)]).length (flat (evC rs) (L ++ [((i, y) : Pe)])) from by rw [List.length_append, HNN.out, flat_append, flat_one, HXS.out, HE.out]; exact o5)
            have HL2 := Lib.hid (show (L ++ [((i, y) : Pe)]).length ≤ k + 1 from by rw [List.length_append, HNN.out]; exact Nat.succ_le_succ hL)
            have HO2 := Lib.hid (show ∀ e ∈ L ++ [((i, y) : Pe)], Occ rs e from fun e he => by
              rcases List.mem_append.1 he with h | h
              · exact HO.out e h
              · rw [List.mem_singleton.1 h]; exact HOC.out)
            clear o5 o4 o3 hnew y3 b4 b3
            go_wp2_with fail
            go_roundw
            case rel => exact ⟨k + 1, _, by go_num, by omega, HL2.out, HO2.out, HR.out, b5⟩
            case measure => simp [intOf]; omega
          · rw [show atR rs y i = .tuple #[.agg evZ, .bool false] from if_neg hoc] at hat
            clear hoc
            go_upto_region 15 with (first | (refine wpList_store_new rfl 80 _ _ rfl rfl _ evZ rfl rfl _ evZ _ rfl rfl rfl (by kernel_rfl) (by kernel_rfl) ?_) | (go_at_call 26; refine hat.mono ?_; rintro e W2 ⟨rfl, hb2⟩))
            have o2 := own_below o hb2; have b2 := b.trans (hb2.mono b.size); have x2 := x.below hb2 x.lt
            clear hb2 o b hat x d1
            have o3 := o2.alloc (.cells evZ 80); have b3 := b2.alloc b2.size (.cells evZ 80); have x3 := x2.alloc (.cells evZ 80)
            clear o2 b2 x2
            generalize W2.alloc (.cells evZ 80) = W3 at *
            have HR := Lib.hid (show W3.ownsRow w1.heap.size 80 7 u10 L.length (flat (evC rs) L) from by rw [HXS.out, HNN.out]; exact o3)
            clear o3
            have wy : IntKind.i64.wrap (y - 1) = y - 1 := by simp [IntKind.wrap, IntKind.bits, IntKind.signed]; omega
            go_wp2_with fail
            go_roundw
            case rel => exact ⟨rfl, y - 1, by go_num, by omega, by omega, HR.out, b3, x3⟩
            case measure => simp [intOf]; omega
        · go_wp2_with fail
          go_roundw
          case rel => exact ⟨k + 1, L, by go_num, by omega, by omega, HO.out, o, b⟩
          case measure => simp [intOf]; omega
    · obtain rfl : k = pn := by omega
      have hltI : ¬ (k : Int) < (k : Int) := by omega
      have b0 : But mb w1.heap.size w1 wr := But.of b
      have al3 : Alm wr (Xv u10) w.heap.size p mb n c A PA k pc rs := (al.wide (Kp.of b) (Y := Xv u10) (fun g q => own_ge o g q)).less (fun g q => .inr q)
      have hmb := al.ge.1; have hbw1 := b1.size; have hpl := al.ge.2
      clear al2 b al
      go_upto_region 19 with fail
      have hz0' := hz0
      generalize u10 = v0 at *
      go_loopw [10, 17] (fun v yy wr => ∃ (j k0 : Nat) (L : List Pe), yy = .int .i64 (lo + (j : Int)) ∧ (j : Int) ≤ hi + 1 - lo ∧ k0 ≤ k ∧ L.length = k0 + sumY rs lo j ∧ (∀ e ∈ L, Occ rs e) ∧ wr.ownsRow w1.heap.size 80 7 v L.length (flat (evC rs) L) ∧ Alm wr (Xv v) w.heap.size p mb n c A PA k pc rs ∧ But mb w1.heap.size w1 wr) (fun _ yy _ => (hi + 1 - intOf yy).toNat)
      case atStart => exact ⟨0, L.length, L, by simp, by omega, hL, rfl, HO.out, o, al3, b0⟩
      case round =>
        clear o al3 b0 HO hL hk
        obtain ⟨j, k0, L', rfl, hj, hk0, hL, hO, o, al, bt⟩ := hrel
        have HO := Lib.hid hO; clear hO
        have hsum := sumY_le rs lo j
        have hmul : rs.length * j ≤ 100 * 101 := Nat.mul_le_mul (by omega) (by omega)
        by_cases hlt : lo + (j : Int) ≤ hi
        · have hmap := al.map
          have hye := year_any (Xv u10) w.heap.size p mb n c A PA k pc rs (lo + (j : Int)) wr al ⟨by omega, by omega⟩
          go_wp2_with fail
          refine hye.mono ?_; rintro e w2 ⟨vy, rfl, hv, al2, bt2⟩
          obtain ⟨A2, n2, c2, L2, rfl, hL2, hS2, hnc2, _⟩ := hv
          have o2 := own_but o hmap bt2
          have bt3 := bt.andB bt2 (Nat.le_refl _)
          have hn2 := hS2.len
          have hl2 := hL2.len
          have hraw := hL2.pm.length_eq
          have HO2 := Lib.hid (show ∀ e ∈ L' ++ L2, Occ rs e from fun e he => by
            rcases List.mem_append.1 he with h | h
            · exact HO.out e h
            · exact (hL2.mem.1 h).1)
          have HL2 := Lib.hid (show (L' ++ L2).length = k0 + sumY rs lo (j + 1) from by
            rw [List.length_append, hL, hraw]; show _ = k0 + (sumY rs lo j + (rawY rs (lo + (j : Nat))).length); omega)
          have hbs := bt3.size
          have HBS := Lib.hid hbs; clear hbs
          obtain ⟨xs, hxs⟩ : ∃ xs, flat (evC rs) L' = xs := ⟨_, rfl⟩
          obtain ⟨N, hN⟩ : ∃ N, L'.length = N := ⟨_, rfl⟩
          rw [hxs, hN] at o2
          have HXS := Lib.hid hxs; have HNN := Lib.hid hN
          have hNb : N + n2 ≤ 20000 := by omega
          have hrd := hS2.r
          clear o al bt hye hmap hL2 hS2 hraw hxs hN hsum hmul hL
          go_wp2_with (at_builtin; refine wpList_append_any _ rfl _ _ 73 rfl w1.heap.size 80 i0 _ 7 64 Tryd.underlying73 HI.out hz0 hz1 hz2 rfl (by decide) _ N _ rfl o2 _ _ n2 c2 _ rfl hrd (flat_cells (ev_one rs) _) (by unfold maxLen; omega) (by omega) HBS.out ?_; intro v5 w5 o5 g5 at5; have HG := Lib.hid g5; have HA5 := Lib.hid at5; clear g5 at5)
          have al5 := al2.app o5 HG.out HA5.out
          have bt5 := bt3.grown HG.out (Nat.le_refl _) (fun g e => .inl (own_ge o2 g e).1)
          have HR := Lib.hid (show w5.ownsRow w1.heap.size 80 7 v5 (L' ++ L2).length (flat (evC rs) (L' ++ L2)) from by rw [List.length_append, HNN.out, hn2, flat_append, HXS.out]; exact o5)
          clear o5 o2 hrd al2 bt2 bt3
          have wy : IntKind.i64.wrap (lo + (j : Int) + 1) = lo + (j : Int) + 1 := by simp [IntKind.wrap, IntKind.bits, IntKind.signed]; omega
          go_wp2_with fail
          go_roundw
          case rel => exact ⟨j + 1, k0, _, by simp; omega, by omega, hk0, HL2.out, HO2.out, HR.out, al5, bt5⟩
          case measure => simp [intOf]; omega
        · have hjj : j = (hi + 1 - lo).toNat := by omega
          obtain ⟨A5, c5, rfl⟩ := own_slice o
          have hso := sort_alm rs L' A5 c5 w1.heap.size wr o (by omega)
          have HLL := Lib.hid hL; have HJJ := Lib.hid hjj
          have hlb : L'.length ≤ 20000 := by omega
          clear hL hjj
          generalize hN : L'.length = N at *
          have HN := Lib.hid hN; clear hN
          go_wp2_with fail
          refine hso.mono ?_; rintro e w3 ⟨rfl, L3, hp, hS3, kp, hbel⟩
          have al4 := al.kp kp
          have bt4 := bt.trans (But.of (hbel w1.heap.size (Nat.le_refl _) bt.size))
          have hto := told_any _ _ p mb n c A PA k pc rs A5 N c5 L3 w3 al4 HOK.out hS3 (fun e he => HO.out e (hp.mem_iff.1 he)) (by omega)
          have HP := Lib.hid hp
          clear hso al bt o kp hbel hS3 al4 hp
          go_wp2_with fail
          refine hto.mono ?_; rintro e w4 ⟨g, R, rfl, _, _, al5, bt5, _⟩
          have B := (bt4.andB bt5 (Nat.le_refl _)).below hmb hbw1
          clear al5 bt5 bt4 hto
          go_wp2_with fail
          go_ret2
          exact ⟨b1.trans B, g, k0, L3.length, rfl, by rw [HPN.out]; exact hk0, by rw [HP.out.length_eq, ← HJJ.out]; first | exact HLL.out | (rw [HN.out]; exact HLL.out)⟩
end Go.Proofs.YtoklcbkphipmkaaDoor.Oc
