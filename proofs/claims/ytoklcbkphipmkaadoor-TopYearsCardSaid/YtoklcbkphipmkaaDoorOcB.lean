/-
  AN EVENT OF A YEAR; THE LAST YEAR THAT IS COVERED: walked.
-/
import Derived.Test.YtoklcbkphipmkaaDoorOcA
namespace Go.Proofs.YtoklcbkphipmkaaDoor.Oc
open Go.ChangeShapes Go.WideShapes Go.ChangeAt Go.RowKit
open Go.Proofs.YtoklcbkphipmkaaDoor
open Go.Proofs.YtoklcbkphipmkaaDoor.Wd
open Go.Proofs.YtoklcbkphipmkaaDoor.Sr
open Go.Proofs.YtoklcbkphipmkaaDoor.Sl
open Go.Proofs.YtoklcbkphipmkaaDoor.Civ (Tab)
open Go.Proofs.YtoklcbkphipmkaaDoor.Mo (nomV nomE nominal_any)
open Go.Proofs.YtoklcbkphipmkaaDoor.Va (bal bcl)
set_option linter.unusedVariables false
set_option linter.unusedSimpArgs false
abbrev ruZ : Array Value := #[.string ⟨#[]⟩, .int .i64 0, .int .i64 0, .int .i64 0, .int .u8 0, .int .i64 0, .int .i64 0, .int .i64 0, .int .u8 0, .int .i64 0, .string ⟨#[]⟩]
def atR (rs : List Ru) (y : Int) (i : Nat) : Value := if occB rs y i = true then .tuple #[.agg (evC rs (i, y)), .bool true] else .tuple #[.agg evZ, .bool false]
theorem atR_no {rs : List Ru} {y : Int} {i : Nat} (h : occB rs y i = false) : Ending.returned (.tuple #[.agg evZ, .bool false]) = .returned (atR rs y i) := by unfold atR; rw [if_neg (by rw [h]; decide)]
theorem atR_yes {rs : List Ru} {y : Int} {i : Nat} {r : Ru} (h : occB rs y i = true) (hr : ru_ rs i = r) : Ending.returned (.tuple #[.agg #[.int .i64 (nomV y r.mo r.kd r.dn r.dw r.sec r.ck), .int .u8 r.ck, .int .i64 r.sv, .int .i64 0, .string r.lt, .int .i64 (i : Nat), .int .i64 y], .bool true]) = .returned (atR rs y i) := by
  subst hr; unfold atR; rw [if_pos h]; rfl
theorem occB_f {rs : List Ru} {y : Int} {i : Nat} {r : Ru} (hr : ru_ rs i = r) (h : ¬ (r.fr ≤ y ∧ y ≤ r.tt ∧ nomE y r.mo r.kd r.dn r.dw r.sec r.ck = 0)) : occB rs y i = false := by subst hr; exact decide_eq_false h
theorem occB_t {rs : List Ru} {y : Int} {i : Nat} {r : Ru} (hr : ru_ rs i = r) (h : r.fr ≤ y ∧ y ≤ r.tt ∧ nomE y r.mo r.kd r.dn r.dw r.sec r.ck = 0) : occB rs y i = true := by subst hr; exact decide_eq_true h
set_option maxRecDepth 100000 in
set_option maxHeartbeats 6400000 in
theorem at_any (base p i n c : Nat) (A : Option Addr) (rs : List Ru) (PV MV : Value) (y : Int) (w : World) (x : Blk w p 78 #[.slice A n c, PV, MV]) (hr : Sls Ru.C 11 w base A n rs) (hbase : base ≤ w.heap.size) (hi : i < n) (hb : (ru_ rs i).Bd) (hT : Tab w) :
    Calls Tryd.prog 26 #[.pointer (some ⟨p, 0, none⟩), .int .i64 (i : Int), .int .i64 y] w fun e w' => e = .returned (atR rs y i) ∧ Below w.heap.size w w' := by
  have hiI : (i : Int) < (n : Int) := by omega
  obtain ⟨ad, rfl, hrow⟩ := hr.row (fun _ => rfl) Ru.nil hi
  obtain ⟨r, hr1⟩ : ∃ r, ru_ rs i = r := ⟨_, rfl⟩
  have hkd : 0 ≤ (ru_ rs i).kd := hb.2.2.1.1
  rw [hr1] at hkd
  rw [show rs.getD i Ru.nil = r from hr1] at hrow
  have HR := Lib.hid hr1; clear hr1 hb
  have b0 := bal (Below.refl w.heap.size w) (.cells evZ 80)
  have z0 := Blk.new w 80 evZ
  have x0 := x.alloc (.cells evZ 80)
  have r0 := hrow.below (Below.alloc (Below.refl base w) hbase (.cells evZ 80))
  have T0 := hT.below (Nat.lt_of_lt_of_le hT.1 (Nat.le_refl _)) b0
  go_enter Tryd.func26, Tryd.ntmps26
  go_upto_region 1 with fail
  have hbase2 := Nat.le_trans hbase b0.size
  generalize w.alloc (.cells evZ 80) = W at *
  clear x hr hrow hT
  have c0 : W.cell? ⟨p, 0, none⟩ = some (.slice (some ad) n c) := x0.cell 0
  have b1 := bal b0 (.cells r.C 42); have z1 := z0.alloc (.cells r.C 42); have y1 := Blk.new W 42 r.C
  have T1 := T0.below (Nat.lt_of_lt_of_le T0.1 (Nat.le_refl _)) (bal (Below.refl W.heap.size W) (.cells r.C 42))
  go_upto_region 2 with (first | (refine wpList_at_g rfl 42 _ rfl base _ r.C rfl _ r0 Tryd.underlying42 rfl (by kernel_rfl) ?_) | (refine wpList_store_new rfl 42 _ _ rfl rfl W.heap.size r.C rfl rfl _ ruZ W rfl rfl rfl (by kernel_rfl) (by kernel_rfl) ?_))
  generalize W.alloc (.cells r.C 42) = V at *
  obtain ⟨q, hq⟩ : ∃ q, W.heap.size = q := ⟨_, rfl⟩
  simp only [hq] at y1 ⊢
  clear b0 z0 x0 T0 c0 hq r0
  have c1 : V.cell? ⟨q, 1, none⟩ = some (.int .i64 r.fr) := y1.cell 1
  have c2 : V.cell? ⟨q, 2, none⟩ = some (.int .i64 r.tt) := y1.cell 2
  by_cases h1 : y < r.fr
  · have HN := Lib.hid (occB_f (y := y) HR.out (fun h => by have := h.1; have := h.2.1; omega))
    go_wp2_with (refine wpList_store_g rfl 80 _ _ rfl rfl w.heap.size 0 evZ evZ rfl rfl _ _ z1 (by show 0 + 7 ≤ 7; decide) (by kernel_rfl) (by kernel_rfl) rfl ?_)
    exact bodyPost_ret (res_ct (p := 6) (q := 7) rfl _ _ w.heap.size _ evZ (.bool false) _ rfl rfl (Blk.row z1 _) Tryd.underlying80 rfl (by kernel_rfl)) rfl ⟨atR_no HN.out, below_row b1 (Nat.le_refl _) _⟩
  · by_cases h2 : r.tt < y
    · have HN := Lib.hid (occB_f (y := y) HR.out (fun h => by have := h.1; have := h.2.1; omega))
      go_wp2_with (refine wpList_store_g rfl 80 _ _ rfl rfl w.heap.size 0 evZ evZ rfl rfl _ _ z1 (by show 0 + 7 ≤ 7; decide) (by kernel_rfl) (by kernel_rfl) rfl ?_)
      exact bodyPost_ret (res_ct (p := 6) (q := 7) rfl _ _ w.heap.size _ evZ (.bool false) _ rfl rfl (Blk.row z1 _) Tryd.underlying80 rfl (by kernel_rfl)) rfl ⟨atR_no HN.out, below_row b1 (Nat.le_refl _) _⟩
    · have c3 : V.cell? ⟨q, 3, none⟩ = some (.int .i64 r.mo) := y1.cell 3
      have hn := nominal_any y r.mo r.kd r.dn r.dw r.sec r.ck V T1 hkd
      obtain ⟨NE, hE⟩ : ∃ a, nomE y r.mo r.kd r.dn r.dw r.sec r.ck = a := ⟨_, rfl⟩
      obtain ⟨NV, hV⟩ : ∃ a, nomV y r.mo r.kd r.dn r.dw r.sec r.ck = a := ⟨_, rfl⟩
      rw [hE, hV] at hn
      have HV := Lib.hid hV; clear hV
      by_cases h3 : NE = 0
      · have HY := Lib.hid (occB_t HR.out ⟨by omega, by omega, hE.trans h3⟩)
        rw [h3] at hn; clear h3 hE
        go_upto_region 5 with (first | (refine wpList_seg_g rfl 30 _ rfl q 4 #[.int .u8 r.kd, .int .i64 r.dn, .int .i64 r.dw] rfl _ _ _ _ y1 Tryd.underlying30 rfl (by kernel_rfl) (by rfl) ?_) | (refine wpList_seg_g rfl 33 _ rfl q 7 #[.int .i64 r.sec, .int .u8 r.ck] rfl _ _ _ _ y1 Tryd.underlying33 rfl (by kernel_rfl) (by rfl) ?_) | (go_at_call 13; refine hn.mono ?_; rintro e V2 ⟨rfl, hb2⟩))
        have z2 := z1.below hb2 z1.lt; have y2 := y1.below hb2 y1.lt; have b2 := bcl b1 hb2
        clear hb2 z1 y1 b1 T1 c1 c2 c3 hn
        have c8 : V2.cell? ⟨q, 8, none⟩ = some (.int .u8 r.ck) := y2.cell 8
        have c9 : V2.cell? ⟨q, 9, none⟩ = some (.int .i64 r.sv) := y2.cell 9
        have c10 : V2.cell? ⟨q, 10, none⟩ = some (.string r.lt) := y2.cell 10
        have b3 := bal b2 (.cells #[.int .i64 NV, .int .u8 r.ck, .int .i64 r.sv, .int .i64 0, .string r.lt] 49); have z3 := z2.alloc (.cells #[.int .i64 NV, .int .u8 r.ck, .int .i64 r.sv, .int .i64 0, .string r.lt] 49)
        have y3 := Blk.new V2 49 #[.int .i64 NV, .int .u8 r.ck, .int .i64 r.sv, .int .i64 0, .string r.lt]
        go_wp2_with (first | (refine wpList_store_new rfl 49 _ _ rfl rfl V2.heap.size #[.int .i64 NV, .int .u8 r.ck, .int .i64 r.sv, .int .i64 0, .string r.lt] rfl rfl _ #[.int .i64 0, .int .u8 0, .int .i64 0, .int .i64 0, .string ⟨#[]⟩] V2 rfl rfl rfl (by kernel_rfl) (by kernel_rfl) ?_) | (refine wpList_row_g rfl 49 _ rfl _ rfl _ _ _ _ y3 Tryd.underlying49 rfl (by kernel_rfl) ?_) | (refine wpList_store_g rfl 80 _ _ rfl rfl w.heap.size 0 #[.int .i64 NV, .int .u8 r.ck, .int .i64 r.sv, .int .i64 0, .string r.lt, .int .i64 (i : Int), .int .i64 y] #[.int .i64 NV, .int .u8 r.ck, .int .i64 r.sv, .int .i64 0, .string r.lt, .int .i64 (i : Int), .int .i64 y] rfl rfl _ _ z3 (by show 0 + 7 ≤ 7; decide) (by kernel_rfl) (by kernel_rfl) rfl ?_))
        refine bodyPost_ret (res_ct (p := 6) (q := 7) rfl _ _ w.heap.size _ #[.int .i64 NV, .int .u8 r.ck, .int .i64 r.sv, .int .i64 0, .string r.lt, .int .i64 (i : Int), .int .i64 y] (.bool true) _ rfl rfl (Blk.row z3 _) Tryd.underlying80 rfl (by kernel_rfl)) rfl ⟨?_, below_row b3 (Nat.le_refl _) _⟩
        rw [← HV.out]; exact atR_yes HY.out HR.out
      · have HN := Lib.hid (occB_f HR.out (fun h => h3 (hE.symm.trans h.2.2)))
        have h3b : (NE != 0) = true := by rw [bne_iff_ne]; exact h3
        clear h3 hE
        go_upto_region 5 with (first | (refine wpList_seg_g rfl 30 _ rfl q 4 #[.int .u8 r.kd, .int .i64 r.dn, .int .i64 r.dw] rfl _ _ _ _ y1 Tryd.underlying30 rfl (by kernel_rfl) (by rfl) ?_) | (refine wpList_seg_g rfl 33 _ rfl q 7 #[.int .i64 r.sec, .int .u8 r.ck] rfl _ _ _ _ y1 Tryd.underlying33 rfl (by kernel_rfl) (by rfl) ?_) | (go_at_call 13; refine hn.mono ?_; rintro e V2 ⟨rfl, hb2⟩))
        have z2 := z1.below hb2 z1.lt; have y2 := y1.below hb2 y1.lt; have b2 := bcl b1 hb2
        clear hb2 z1 y1 b1 T1 c1 c2 c3 hn
        go_wp2_with (refine wpList_store_g rfl 80 _ _ rfl rfl w.heap.size 0 evZ evZ rfl rfl _ _ z2 (by show 0 + 7 ≤ 7; decide) (by kernel_rfl) (by kernel_rfl) rfl ?_)
        exact bodyPost_ret (res_ct (p := 6) (q := 7) rfl _ _ w.heap.size _ evZ (.bool false) _ rfl rfl (Blk.row z2 _) Tryd.underlying80 rfl (by kernel_rfl)) rfl ⟨atR_no HN.out, below_row b2 (Nat.le_refl _) _⟩
/-- an almanac's places -/
abbrev plC (i : Nat) : Array Value := #[.int .i64 (i : Int)]
theorem covS_no {rs : List Ru} {top y : Int} {p : Nat} {r : Ru} (hr : ru_ rs p = r) (h : ¬ r.fr ≤ top) : covS rs top y p = y := by subst hr; unfold covS; rw [if_neg h]
theorem covS_yes {rs : List Ru} {top y : Int} {p : Nat} {r : Ru} (hr : ru_ rs p = r) (h : r.fr ≤ top) : covS rs top y p = if y < (if top < r.tt then top else r.tt) then (if top < r.tt then top else r.tt) else y := by
  subst hr; unfold covS; rw [if_pos h]
set_option maxRecDepth 100000 in
set_option maxHeartbeats 6400000 in
theorem cov_any (base p n c pn pc : Nat) (A PA : Option Addr) (rs : List Ru) (MV : Value) (top : Int) (w : World) (x : Blk w p 78 #[.slice A n c, .slice PA pn pc, MV]) (hr : Sls Ru.C 11 w base A n rs) (hbase : base ≤ w.heap.size) (hp : Sls plC 1 w w.heap.size PA pn (pls rs)) (ht : 0 ≤ top ∧ top ≤ 9999) (hn : n ≤ 1000) :
    Calls Tryd.prog 54 #[.pointer (some ⟨p, 0, none⟩), .int .i64 top] w fun e w' => e = .returned (.int .i64 (covV rs top)) ∧ Below w.heap.size w w' := by
  have hpn : pn ≤ n := by have := plK_len rs rs.length; have h1 := hp.len; have h2 := hr.len; unfold pls at h1; unfold plK at this; omega
  have c1 : w.cell? ⟨p, 1, none⟩ = some (.slice PA pn pc) := x.cell 1
  go_enter Tryd.func54, Tryd.ntmps54
  go_upto_region 3 with fail
  clear c1
  go_loopw [5, 7, 8, 14] (fun u _ _ i wr => ∃ k : Nat, i = .int .i64 (k : Int) ∧ u = .int .i64 (covK rs top k) ∧ k ≤ pn ∧ Below w.heap.size w wr) (fun _ _ _ i _ => pn - (intOf i).toNat)
  case atStart => exact ⟨0, rfl, rfl, Nat.zero_le _, Below.refl _ _⟩
  case round =>
    obtain ⟨k, rfl, rfl, hk, b⟩ := hrel
    have hcb := covK_bd (rs := rs) (top := top) ht.1 k
    by_cases hlt : k < pn
    · have hltI : (k : Int) < (pn : Int) := by omega
      have HK := Lib.hid (covK_succ rs top k (by rw [hp.len]; exact hlt))
      obtain ⟨pd, eA, hprow⟩ := (hp.below b).row (fun _ => rfl) 0 hlt
      subst eA
      obtain ⟨i, hi⟩ : ∃ i, (pls rs).getD k 0 = i := ⟨_, rfl⟩
      have hin : i < n := by rw [← hi, ← hr.len]; exact pls_lt (getD_mem (L := pls rs) 0 (by rw [hp.len]; exact hlt))
      rw [hi] at hprow
      have HI := Lib.hid hi; clear hi
      have hiI : (i : Int) < (n : Int) := by omega
      obtain ⟨ad, eA, hrow⟩ := (hr.below (b.mono hbase)).row (fun _ => rfl) Ru.nil hin
      subst eA
      obtain ⟨r, hr1⟩ : ∃ r, ru_ rs i = r := ⟨_, rfl⟩
      rw [show rs.getD i Ru.nil = r from hr1] at hrow
      have HR := Lib.hid hr1; clear hr1
      have c0 : wr.cell? ⟨p, 0, none⟩ = some (.slice (some ad) n c) := (x.below b x.lt).cell 0
      have cp : wr.cell? (pd.add k) = some (.int .i64 (i : Int)) := by
        have := row_c0 hprow (v := .int .i64 (i : Int)) rfl
        rwa [Nat.mul_one] at this
      have b1 := bal b (.cells r.C 42); have y1 := Blk.new wr 42 r.C
      go_upto_region 6 with (first | (refine wpList_at_g rfl 42 _ rfl base _ r.C rfl _ hrow Tryd.underlying42 rfl (by kernel_rfl) ?_) | (refine wpList_store_new rfl 42 _ _ rfl rfl wr.heap.size r.C rfl rfl _ ruZ wr rfl rfl rfl (by kernel_rfl) (by kernel_rfl) ?_))
      generalize wr.alloc (.cells r.C 42) = V at *
      obtain ⟨q, hq⟩ : ∃ q, wr.heap.size = q := ⟨_, rfl⟩
      simp only [hq] at y1 ⊢
      clear hq hrow hprow b c0 cp
      have d1 : V.cell? ⟨q, 1, none⟩ = some (.int .i64 r.fr) := y1.cell 1
      have d2 : V.cell? ⟨q, 2, none⟩ = some (.int .i64 r.tt) := y1.cell 2
      clear y1
      rw [HI.out] at HK
      generalize covK rs top k = u at *
      by_cases h1 : r.fr ≤ top
      · have HC := Lib.hid (covS_yes (y := u) HR.out h1)
        go_wp2_with fail
        go_roundw
        case rel => exact ⟨k + 1, by go_num, by rw [HK.out, HC.out], by omega, b1⟩
        case measure => simp [intOf]; omega
      · have HC := Lib.hid (covS_no (y := u) HR.out h1)
        go_wp2_with fail
        go_roundw
        case rel => exact ⟨k + 1, by go_num, by rw [HK.out, HC.out], by omega, b1⟩
        case measure => simp [intOf]; omega
    · obtain rfl : k = pn := by omega
      have hltI : ¬ (k : Int) < (k : Int) := by omega
      have HV := Lib.hid (covK_all rs top); rw [hp.len] at HV
      generalize covK rs top k = u at *
      go_wp2_with fail
      go_ret
      exact ⟨by rw [HV.out]; rfl, b⟩
end Go.Proofs.YtoklcbkphipmkaaDoor.Oc
