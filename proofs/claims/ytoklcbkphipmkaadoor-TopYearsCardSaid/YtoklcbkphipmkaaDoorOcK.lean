/-
  THE LAST OCCURRENCE AHEAD OF A NOMINAL TIME: occur.Last, walked.
-/
import Derived.Test.YtoklcbkphipmkaaDoorOcJ
namespace Go.Proofs.YtoklcbkphipmkaaDoor.Oc
open Go.ChangeShapes Go.WideShapes Go.ChangeAt Go.RowKit
open Go.Proofs.YtoklcbkphipmkaaDoor
open Go.Proofs.YtoklcbkphipmkaaDoor.Wd
open Go.Proofs.YtoklcbkphipmkaaDoor.Sr
open Go.Proofs.YtoklcbkphipmkaaDoor.Sl
open Go.Proofs.YtoklcbkphipmkaaDoor.Civ (Tab)
open Go.Proofs.YtoklcbkphipmkaaDoor.Va (bal bcl)
open Go.Proofs.YtoklcbkphipmkaaDoor.Clk (yrV yrE)
set_option linter.unusedVariables false
set_option linter.unusedSimpArgs false
abbrev ocZ : Array Value := #[.int .i64 0, .int .u8 0, .int .i64 0, .int .i64 0, .string ⟨#[]⟩]
def topV (t : Int) : Int := if yrE t = 0 then min (yrV t + 1) 9999 else if t < 0 then 1 else 9999
theorem topV_0 {t : Int} (h : yrE t = 0) : topV t = min (yrV t + 1) 9999 := by unfold topV; rw [if_pos h]
theorem topV_2 {t : Int} (h : ¬ yrE t = 0) (h2 : t < 0) : topV t = 1 := by unfold topV; rw [if_neg h, if_pos h2]
theorem topV_3 {t : Int} (h : ¬ yrE t = 0) (h2 : ¬ t < 0) : topV t = 9999 := by unfold topV; rw [if_neg h, if_neg h2]
/-- what Last answers, of right rules -/
def LsP (w : World) (rs : List Ru) (t : Int) (e : Ending) (w' : World) : Prop :=
  Below w.heap.size w w' ∧ ∃ b : Option Pe, LastP rs (topV t) (Ql rs t) b ∧ (b = none → e = .returned (.tuple #[.agg ocZ, .bool false])) ∧
    ∀ x, b = some x → ∃ b' : Option Pe, LastP rs (x.2 + 1) (Qt rs x) b' ∧ e = .returned (.tuple #[.agg (toC rs (x, svV rs b')), .bool true])
theorem sls_one (rs : List Ru) (e : Pe) (w : World) : Sls (evC rs) 7 (w.alloc (.cells (evC rs e) 80)) (w.alloc (.cells (evC rs e) 80)).heap.size (some ⟨w.heap.size, 0, none⟩) 1 [e] :=
  Sls.of_blk (L := [e]) (fun _ => rfl) (Blk.new w _ (evC rs e)) (by rw [flat_one])
theorem told_one {rs : List Ru} {x : Pe} {R : List Oc} (h : Told rs [x] R) : ∃ b : Option Pe, R = [(x, svV rs b)] ∧ LastP rs (x.2 + 1) (Qt rs x) b := by
  obtain ⟨h1, h2⟩ := h
  match R, h1, h2 with
  | [y], h1, h2 =>
    obtain ⟨b, hb, he⟩ := h2 y (List.mem_singleton.2 rfl)
    have hx : y.1 = x := by simpa using h1
    subst hx
    exact ⟨b, by rw [← he], hb⟩
  | [], h1, _ => simp at h1
  | _ :: _ :: _, h1, _ => simp at h1
set_option maxRecDepth 100000 in
set_option maxHeartbeats 12800000 in
/-- .. from when the year is known -/
theorem Last_any (A : Option Addr) (n c : Nat) (rs : List Ru) (t : Int) (w : World) (hS : Sls Ru.C 11 w w.heap.size A n rs) (hb : ∀ r ∈ rs, r.Bd) (hn : n ≤ 1000) (hT : Tab w) (hok : Ok rs) (hlo : -9223372036854775808 ≤ t) (hhi : t ≤ 9223372036854775807) (hyr : yrE t = 0 → 0 ≤ yrV t ∧ yrV t ≤ 9999) :
    Calls Tryd.prog 14 #[.slice A n c, .int .i64 t] w (LsP w rs t) := by
  have b0 := bal (bal (Below.refl _ w) (.cells #[.int .i64 t] 2)) (.cells ocZ 49)
  have z0 := (Blk.new w 2 #[.int .i64 t]).alloc (.cells ocZ 49)
  have r0 := blk_at (w.alloc (.cells #[.int .i64 t] 2)) 49 ocZ (sz1 w _ rfl)
  have hS0 := (hS.below b0).more b0.size
  have T0 := hT.below (Nat.lt_of_lt_of_le hT.1 (Nat.le_refl _)) b0
  go_enter Tryd.func14, Tryd.ntmps14
  go_upto_region 1 with fail
  generalize (w.alloc (.cells #[.int .i64 t] 2)).alloc (.cells ocZ 49) = W at *
  go_wp2_with fail
  refine (of_any A n c rs W hS0 hb hn T0).mono ?_; rintro e w1 ⟨b1, q⟩
  rcases q with ⟨_, p, mb, pc, PA, rfl, al⟩ | ⟨q, _⟩
  · have z1 := z0.below b1 z0.lt; have r1 := r0.below b1 r0.lt; have B1 := bcl b0 b1
    have hbase : w.heap.size ≤ W.heap.size := b0.size
    have hrW := r0.lt
    clear z0 r0 b0 b1 hS0 T0
    go_upto_region 5 with fail
    have c0 : w1.cell? ⟨w.heap.size, 0, none⟩ = some (.int .i64 t) := z1.cell 0
    have hcy := Clk.year_any t w1 hlo hhi
    have HYR := Lib.hid hyr; clear hyr
    have HT0 := Lib.hid (@topV_0 t); have HT2 := Lib.hid (@topV_2 t); have HT3 := Lib.hid (@topV_3 t)
    generalize yrV t = yv at *
    generalize yrE t = ye at *
    have hoc : ∀ x : Pe, Occ rs x → 1 ≤ x.2 ∧ x.2 ≤ 9999 := fun x hx => occ_year hok hx
    have HOC := Lib.hid hoc; clear hoc
    by_cases h1 : ye = 0
    · have hyv := HYR.out h1
      have hy1 := hyv.1; have hy2 := hyv.2; clear hyv
      have hwr : IntKind.i64.wrap (yv + 1) = yv + 1 := by simp [IntKind.wrap, IntKind.bits, IntKind.signed]; omega
      have HTOP := Lib.hid (HT0.out h1)
      subst h1
      clear HT0 HT2 HT3
      go_wp2_with fail
      refine hcy.mono ?_; rintro e w2 ⟨rfl, hb2⟩
      have z2 := z1.below hb2 z1.lt; have r2 := r1.below hb2 r1.lt; have B2 := bcl B1 hb2; have al2 := al.below hb2
      clear z1 r1 B1 al hb2 c0 hcy
      have d0 : w2.cell? ⟨w.heap.size, 0, none⟩ = some (.int .i64 t) := z2.cell 0
      go_wp2_with fail
      refine (lal_any _ _ p mb n c A PA _ pc rs (min (yv + 1) 9999) t w.heap.size w2 al2 hok ⟨by omega, by omega⟩ z2).mono ?_; rintro e w3 ⟨b, rfl, hL, al3, bt3⟩
      rw [← HTOP.out] at hL
      have HL := Lib.hid hL; clear hL
      have r3 := Blk.but r2 al2.map bt3 r2.lt
      have B3 := B2.trans (bt3.below (Nat.le_trans hbase al2.ge.1) (Nat.le_trans hbase al2.bw))
      clear z2 r2 B2 bt3 al2 d0
      cases b with
      | none =>
        have r4 := r3.alloc (.cells evZ 80); have B4 := bal B3 (.cells evZ 80)
        clear r3 B3 al3
        go_wp2_with (first | (refine wpList_store_new rfl 80 _ _ rfl rfl w3.heap.size evZ rfl rfl _ evZ w3 rfl rfl rfl (by kernel_rfl) (by kernel_rfl) ?_; generalize w3.alloc (.cells evZ 80) = w4 at *) | (refine wpList_store_g rfl 49 _ _ rfl rfl (w.heap.size + 1) 0 ocZ ocZ rfl rfl _ _ r4 (by show 0 + 5 ≤ 5; decide) (by kernel_rfl) (by kernel_rfl) rfl ?_))
        have hfin := below_row B4 (Nat.le_succ w.heap.size) ocZ
        refine bodyPost_ret (res_ct (p := 4) (q := 5) rfl _ _ (w.heap.size + 1) _ ocZ (.bool false) _ rfl rfl (Blk.row r4 _) Tryd.underlying49 rfl (by kernel_rfl)) rfl ?_
        exact ⟨hfin, none, HL.out, fun _ => rfl, fun x hx => by cases hx⟩
      | some x =>
        have hxo := HL.out.1
        have HXO := Lib.hid hxo; clear hxo
        have hb4 := bal (Below.refl _ w3) (.cells (evC rs x) 80); have x4 := Blk.new w3 80 (evC rs x); have r4 := r3.alloc (.cells (evC rs x) 80); have B4 := bcl B3 hb4; have al4 := al3.below hb4
        clear r3 B3 al3 hb4
        go_upto_region 13 with (refine wpList_store_new rfl 80 _ _ rfl rfl w3.heap.size (evC rs x) rfl rfl _ evZ w3 rfl rfl rfl (by kernel_rfl) (ev_one rs _) ?_)
        generalize w3.alloc (.cells (evC rs x) 80) = w4 at *
        obtain ⟨q, hq⟩ : ∃ q, w3.heap.size = q := ⟨_, rfl⟩
        simp only [hq] at x4 ⊢
        clear hq
        have hb5 := bal (Below.refl _ w4) (.cells (evC rs x) 80); have r5 := r4.alloc (.cells (evC rs x) 80); have B5 := bcl B4 hb5; have al5 := al4.below hb5; have s5 := sls_one rs x w4
        have hto := told_any _ _ p mb n c A PA _ pc rs (some ⟨w4.heap.size, 0, none⟩) 1 1 [x] _ al5 hok s5 (fun y hy => by rw [List.mem_singleton] at hy; rw [hy]; exact HXO.out) (by omega)
        obtain ⟨T, K, S, LT, hC1, hC2⟩ : ∃ T K S LT, evC rs x = #[.int .i64 T, .int .u8 K, .int .i64 S, .int .i64 0, .string LT, .int .i64 (x.1 : Nat), .int .i64 x.2] ∧ ∀ s, toC rs (x, s) = #[.int .i64 T, .int .u8 K, .int .i64 S, .int .i64 s, .string LT] := ⟨_, _, _, _, rfl, fun _ => rfl⟩
        have HC2 := Lib.hid hC2; clear hC2
        rw [hC1] at hto x4 r5 B5 al5 hb5 s5
        clear hC1 s5
        go_wp2_with (first | (refine wpList_row_g rfl 80 _ rfl _ rfl _ _ _ _ x4 Tryd.underlying80 rfl (by kernel_rfl) ?_) | (go_at_call 23; refine hto.mono ?_; rintro e w6 ⟨g6, R, rfl, hT6, hS6, al6, bt6, _⟩; have r6 := Blk.but r5 al5.map bt6 r5.lt; obtain ⟨ad6, eA6, row6⟩ := hS6.row (fun _ => rfl) ((0, 0), 0) (Nat.zero_lt_one); injection eA6 with eA6; subst eA6; have hh6 := told_one hT6; obtain ⟨b6, hR6, hL6⟩ := hh6; subst hR6; have row7 := row_0 (sz := 5) row6; rw [show ([(x, svV rs b6)] : List Oc).getD 0 ((0, 0), 0) = (x, svV rs b6) from rfl, HC2.out] at row7; have HL6 := Lib.hid hL6; clear hT6 hS6 row6 hL6) | (refine wpList_at_g rfl 49 _ rfl _ _ _ rfl _ row7 Tryd.underlying49 rfl (by kernel_rfl) ?_) | (refine wpList_store_g rfl 49 _ _ rfl rfl (w.heap.size + 1) 0 #[.int .i64 T, .int .u8 K, .int .i64 S, .int .i64 (svV rs b6), .string LT] #[.int .i64 T, .int .u8 K, .int .i64 S, .int .i64 (svV rs b6), .string LT] rfl rfl _ _ r6 (by show 0 + 5 ≤ 5; decide) (by kernel_rfl) (by simp [Value.oneCell']) rfl ?_))
        have B6 := B5.trans (bt6.below (Nat.le_trans hbase al5.ge.1) (Nat.le_trans hbase al5.bw))
        exact bodyPost_ret (res_ct (p := 4) (q := 5) rfl _ _ (w.heap.size + 1) _ #[.int .i64 T, .int .u8 K, .int .i64 S, .int .i64 (svV rs b6), .string LT] (.bool true) _ rfl rfl (Blk.row r6 _) Tryd.underlying49 rfl (by kernel_rfl)) rfl ⟨below_row B6 (Nat.le_succ _) _, some x, HL.out, fun h => (by cases h), fun y hy => (by injection hy with hy; subst hy; exact ⟨b6, HL6.out, by rw [HC2.out]⟩)⟩
    · have h1b : (ye == 0) = false := by rw [beq_eq_false_iff_ne]; exact h1
      by_cases h2 : t < 0
      · have HTOP := Lib.hid (HT2.out h1 h2)
        clear HT0 HT2 HT3 h1
        go_wp2_with fail
        refine hcy.mono ?_; rintro e w2 ⟨rfl, hb2⟩
        have z2 := z1.below hb2 z1.lt; have r2 := r1.below hb2 r1.lt; have B2 := bcl B1 hb2; have al2 := al.below hb2
        clear z1 r1 B1 al hb2 c0 hcy
        have d0 : w2.cell? ⟨w.heap.size, 0, none⟩ = some (.int .i64 t) := z2.cell 0
        go_wp2_with fail
        refine (lal_any _ _ p mb n c A PA _ pc rs 1 t w.heap.size w2 al2 hok ⟨by omega, by omega⟩ z2).mono ?_; rintro e w3 ⟨b, rfl, hL, al3, bt3⟩
        rw [← HTOP.out] at hL
        have HL := Lib.hid hL; clear hL
        have r3 := Blk.but r2 al2.map bt3 r2.lt
        have B3 := B2.trans (bt3.below (Nat.le_trans hbase al2.ge.1) (Nat.le_trans hbase al2.bw))
        clear z2 r2 B2 bt3 al2 d0
        cases b with
        | none =>
          have r4 := r3.alloc (.cells evZ 80); have B4 := bal B3 (.cells evZ 80)
          clear r3 B3 al3
          go_wp2_with (first | (refine wpList_store_new rfl 80 _ _ rfl rfl w3.heap.size evZ rfl rfl _ evZ w3 rfl rfl rfl (by kernel_rfl) (by kernel_rfl) ?_; generalize w3.alloc (.cells evZ 80) = w4 at *) | (refine wpList_store_g rfl 49 _ _ rfl rfl (w.heap.size + 1) 0 ocZ ocZ rfl rfl _ _ r4 (by show 0 + 5 ≤ 5; decide) (by kernel_rfl) (by kernel_rfl) rfl ?_))
          have hfin := below_row B4 (Nat.le_succ w.heap.size) ocZ
          refine bodyPost_ret (res_ct (p := 4) (q := 5) rfl _ _ (w.heap.size + 1) _ ocZ (.bool false) _ rfl rfl (Blk.row r4 _) Tryd.underlying49 rfl (by kernel_rfl)) rfl ?_
          exact ⟨hfin, none, HL.out, fun _ => rfl, fun x hx => by cases hx⟩
        | some x =>
          have hxo := HL.out.1
          have HXO := Lib.hid hxo; clear hxo
          have hb4 := bal (Below.refl _ w3) (.cells (evC rs x) 80); have x4 := Blk.new w3 80 (evC rs x); have r4 := r3.alloc (.cells (evC rs x) 80); have B4 := bcl B3 hb4; have al4 := al3.below hb4
          clear r3 B3 al3 hb4
          go_upto_region 13 with (refine wpList_store_new rfl 80 _ _ rfl rfl w3.heap.size (evC rs x) rfl rfl _ evZ w3 rfl rfl rfl (by kernel_rfl) (ev_one rs _) ?_)
          generalize w3.alloc (.cells (evC rs x) 80) = w4 at *
          obtain ⟨q, hq⟩ : ∃ q, w3.heap.size = q := ⟨_, rfl⟩
          simp only [hq] at x4 ⊢
          clear hq
          have hb5 := bal (Below.refl _ w4) (.cells (evC rs x) 80); have r5 := r4.alloc (.cells (evC rs x) 80); have B5 := bcl B4 hb5; have al5 := al4.below hb5; have s5 := sls_one rs x w4
          have hto := told_any _ _ p mb n c A PA _ pc rs (some ⟨w4.heap.size, 0, none⟩) 1 1 [x] _ al5 hok s5 (fun y hy => by rw [List.mem_singleton] at hy; rw [hy]; exact HXO.out) (by omega)
          obtain ⟨T, K, S, LT, hC1, hC2⟩ : ∃ T K S LT, evC rs x = #[.int .i64 T, .int .u8 K, .int .i64 S, .int .i64 0, .string LT, .int .i64 (x.1 : Nat), .int .i64 x.2] ∧ ∀ s, toC rs (x, s) = #[.int .i64 T, .int .u8 K, .int .i64 S, .int .i64 s, .string LT] := ⟨_, _, _, _, rfl, fun _ => rfl⟩
          have HC2 := Lib.hid hC2; clear hC2
          rw [hC1] at hto x4 r5 B5 al5 hb5 s5
          clear hC1 s5
          go_wp2_with (first | (refine wpList_row_g rfl 80 _ rfl _ rfl _ _ _ _ x4 Tryd.underlying80 rfl (by kernel_rfl) ?_) | (go_at_call 23; refine hto.mono ?_; rintro e w6 ⟨g6, R, rfl, hT6, hS6, al6, bt6, _⟩; have r6 := Blk.but r5 al5.map bt6 r5.lt; obtain ⟨ad6, eA6, row6⟩ := hS6.row (fun _ => rfl) ((0, 0), 0) (Nat.zero_lt_one); injection eA6 with eA6; subst eA6; have hh6 := told_one hT6; obtain ⟨b6, hR6, hL6⟩ := hh6; subst hR6; have row7 := row_0 (sz := 5) row6; rw [show ([(x, svV rs b6)] : List Oc).getD 0 ((0, 0), 0) = (x, svV rs b6) from rfl, HC2.out] at row7; have HL6 := Lib.hid hL6; clear hT6 hS6 row6 hL6) | (refine wpList_at_g rfl 49 _ rfl _ _ _ rfl _ row7 Tryd.underlying49 rfl (by kernel_rfl) ?_) | (refine wpList_store_g rfl 49 _ _ rfl rfl (w.heap.size + 1) 0 #[.int .i64 T, .int .u8 K, .int .i64 S, .int .i64 (svV rs b6), .string LT] #[.int .i64 T, .int .u8 K, .int .i64 S, .int .i64 (svV rs b6), .string LT] rfl rfl _ _ r6 (by show 0 + 5 ≤ 5; decide) (by kernel_rfl) (by simp [Value.oneCell']) rfl ?_))
          have B6 := B5.trans (bt6.below (Nat.le_trans hbase al5.ge.1) (Nat.le_trans hbase al5.bw))
          exact bodyPost_ret (res_ct (p := 4) (q := 5) rfl _ _ (w.heap.size + 1) _ #[.int .i64 T, .int .u8 K, .int .i64 S, .int .i64 (svV rs b6), .string LT] (.bool true) _ rfl rfl (Blk.row r6 _) Tryd.underlying49 rfl (by kernel_rfl)) rfl ⟨below_row B6 (Nat.le_succ _) _, some x, HL.out, fun h => (by cases h), fun y hy => (by injection hy with hy; subst hy; exact ⟨b6, HL6.out, by rw [HC2.out]⟩)⟩
      · have HTOP := Lib.hid (HT3.out h1 h2)
        clear HT0 HT2 HT3 h1
        go_wp2_with fail
        refine hcy.mono ?_; rintro e w2 ⟨rfl, hb2⟩
        have z2 := z1.below hb2 z1.lt; have r2 := r1.below hb2 r1.lt; have B2 := bcl B1 hb2; have al2 := al.below hb2
        clear z1 r1 B1 al hb2 c0 hcy
        have d0 : w2.cell? ⟨w.heap.size, 0, none⟩ = some (.int .i64 t) := z2.cell 0
        go_wp2_with fail
        refine (lal_any _ _ p mb n c A PA _ pc rs 9999 t w.heap.size w2 al2 hok ⟨by omega, by omega⟩ z2).mono ?_; rintro e w3 ⟨b, rfl, hL, al3, bt3⟩
        rw [← HTOP.out] at hL
        have HL := Lib.hid hL; clear hL
        have r3 := Blk.but r2 al2.map bt3 r2.lt
        have B3 := B2.trans (bt3.below (Nat.le_trans hbase al2.ge.1) (Nat.le_trans hbase al2.bw))
        clear z2 r2 B2 bt3 al2 d0
        cases b with
        | none =>
          have r4 := r3.alloc (.cells evZ 80); have B4 := bal B3 (.cells evZ 80)
          clear r3 B3 al3
          go_wp2_with (first | (refine wpList_store_new rfl 80 _ _ rfl rfl w3.heap.size evZ rfl rfl _ evZ w3 rfl rfl rfl (by kernel_rfl) (by kernel_rfl) ?_; generalize w3.alloc (.cells evZ 80) = w4 at *) | (refine wpList_store_g rfl 49 _ _ rfl rfl (w.heap.size + 1) 0 ocZ ocZ rfl rfl _ _ r4 (by show 0 + 5 ≤ 5; decide) (by kernel_rfl) (by kernel_rfl) rfl ?_))
          have hfin := below_row B4 (Nat.le_succ w.heap.size) ocZ
          refine bodyPost_ret (res_ct (p := 4) (q := 5) rfl _ _ (w.heap.size + 1) _ ocZ (.bool false) _ rfl rfl (Blk.row r4 _) Tryd.underlying49 rfl (by kernel_rfl)) rfl ?_
          exact ⟨hfin, none, HL.out, fun _ => rfl, fun x hx => by cases hx⟩
        | some x =>
          have hxo := HL.out.1
          have HXO := Lib.hid hxo; clear hxo
          have hb4 := bal (Below.refl _ w3) (.cells (evC rs x) 80); have x4 := Blk.new w3 80 (evC rs x); have r4 := r3.alloc (.cells (evC rs x) 80); have B4 := bcl B3 hb4; have al4 := al3.below hb4
          clear r3 B3 al3 hb4
          go_upto_region 13 with (refine wpList_store_new rfl 80 _ _ rfl rfl w3.heap.size (evC rs x) rfl rfl _ evZ w3 rfl rfl rfl (by kernel_rfl) (ev_one rs _) ?_)
          generalize w3.alloc (.cells (evC rs x) 80) = w4 at *
          obtain ⟨q, hq⟩ : ∃ q, w3.heap.size = q := ⟨_, rfl⟩
          simp only [hq] at x4 ⊢
          clear hq
          have hb5 := bal (Below.refl _ w4) (.cells (evC rs x) 80); have r5 := r4.alloc (.cells (evC rs x) 80); have B5 := bcl B4 hb5; have al5 := al4.below hb5; have s5 := sls_one rs x w4
          have hto := told_any _ _ p mb n c A PA _ pc rs (some ⟨w4.heap.size, 0, none⟩) 1 1 [x] _ al5 hok s5 (fun y hy => by rw [List.mem_singleton] at hy; rw [hy]; exact HXO.out) (by omega)
          obtain ⟨T, K, S, LT, hC1, hC2⟩ : ∃ T K S LT, evC rs x = #[.int .i64 T, .int .u8 K, .int .i64 S, .int .i64 0, .string LT, .int .i64 (x.1 : Nat), .int .i64 x.2] ∧ ∀ s, toC rs (x, s) = #[.int .i64 T, .int .u8 K, .int .i64 S, .int .i64 s, .string LT] := ⟨_, _, _, _, rfl, fun _ => rfl⟩
          have HC2 := Lib.hid hC2; clear hC2
          rw [hC1] at hto x4 r5 B5 al5 hb5 s5
          clear hC1 s5
          go_wp2_with (first | (refine wpList_row_g rfl 80 _ rfl _ rfl _ _ _ _ x4 Tryd.underlying80 rfl (by kernel_rfl) ?_) | (go_at_call 23; refine hto.mono ?_; rintro e w6 ⟨g6, R, rfl, hT6, hS6, al6, bt6, _⟩; have r6 := Blk.but r5 al5.map bt6 r5.lt; obtain ⟨ad6, eA6, row6⟩ := hS6.row (fun _ => rfl) ((0, 0), 0) (Nat.zero_lt_one); injection eA6 with eA6; subst eA6; have hh6 := told_one hT6; obtain ⟨b6, hR6, hL6⟩ := hh6; subst hR6; have row7 := row_0 (sz := 5) row6; rw [show ([(x, svV rs b6)] : List Oc).getD 0 ((0, 0), 0) = (x, svV rs b6) from rfl, HC2.out] at row7; have HL6 := Lib.hid hL6; clear hT6 hS6 row6 hL6) | (refine wpList_at_g rfl 49 _ rfl _ _ _ rfl _ row7 Tryd.underlying49 rfl (by kernel_rfl) ?_) | (refine wpList_store_g rfl 49 _ _ rfl rfl (w.heap.size + 1) 0 #[.int .i64 T, .int .u8 K, .int .i64 S, .int .i64 (svV rs b6), .string LT] #[.int .i64 T, .int .u8 K, .int .i64 S, .int .i64 (svV rs b6), .string LT] rfl rfl _ _ r6 (by show 0 + 5 ≤ 5; decide) (by kernel_rfl) (by simp [Value.oneCell']) rfl ?_))
          have B6 := B5.trans (bt6.below (Nat.le_trans hbase al5.ge.1) (Nat.le_trans hbase al5.bw))
          exact bodyPost_ret (res_ct (p := 4) (q := 5) rfl _ _ (w.heap.size + 1) _ #[.int .i64 T, .int .u8 K, .int .i64 S, .int .i64 (svV rs b6), .string LT] (.bool true) _ rfl rfl (Blk.row r6 _) Tryd.underlying49 rfl (by kernel_rfl)) rfl ⟨below_row B6 (Nat.le_succ _) _, some x, HL.out, fun h => (by cases h), fun y hy => (by injection hy with hy; subst hy; exact ⟨b6, HL6.out, by rw [HC2.out]⟩)⟩
  · exact absurd hok q
end Go.Proofs.YtoklcbkphipmkaaDoor.Oc
