/-
  THE REFERENCE OF AREAS, WALKED: right, on the edge.
-/
import Derived.Test.YtoiccljmdplfgaaAr5
import Derived.Test.YtoiccljmdplfgaaRaA
import Derived.Test.YtoiccljmdplfgaaLdA
import Derived.Deep.RegionHeld3
import Derived.Deep.DrawnRows
namespace Go.Proofs.Ytoiccljmdplfgaa.Ar
open Go.ChangeShapes Go.WideShapes Go.ChangeAt Go.RowKit Go.Shelf
open Go.Proofs.Ytoiccljmdplfgaa
open Go.Proofs.Ytoiccljmdplfgaa.Wd
open Go.Proofs.Ytoiccljmdplfgaa.Pl
open Go.Proofs.Ytoiccljmdplfgaa.Nv
open Go.Proofs.Ytoiccljmdplfgaa.Ld
set_option linter.unusedVariables false
set_option linter.unusedSimpArgs false
attribute [local go_sem] Oper.semAt_some
theorem rname_b (s : ByteArray) (w : World) (hs : s.size ≤ maxLen) :
    Calls Try.prog 56 #[.string s] w fun e w' => e = .returned (.bool (nmB s)) ∧ Below w.heap.size w w' :=
  (rname_any s w hs).mono fun e w' h => ⟨h.1, by rw [h.2]; exact Below.refl _ _⟩
set_option maxRecDepth 20000 in
set_option maxHeartbeats 3200000 in
theorem racheck_any (z : ByteArray) (A : Option Addr) (n c B : Nat) (l : List P2) (w : World) (hz : z.size ≤ maxLen) (hR : Pts w B A n l) (hB : B ≤ w.heap.size) (hm : n ≤ maxLen) :
    Calls Try.prog 24 #[arV z A n c] w fun e w' => e = .returned (.int .i64 (arE z l)) ∧ Below w.heap.size w w' := by
  have hll := hR.1
  unfold maxLen at hm
  have i1 := (BI.start w).alloc (.cells (arA z A n c) 34)
  have x1 := Blk.new w 34 (arA z A n c)
  have hnm := fun w => rname_b z w hz
  have d0 : (w.alloc (.cells (arA z A n c) 34)).cell? ⟨w.heap.size, 0, none⟩ = some (.string z) := x1.cell 0
  cases hn : nmB z
  · have hE := Lib.hid (arE_no (z := z) (l := l) (by unfold arOk; rw [hn]; rfl))
    rw [hn] at hnm
    clear hn
    go_enter Try.func24, Try.ntmps24
    go_wp2_with fail
    refine (hnm _).mono ?_; rintro e w2 ⟨rfl, hb2⟩
    have i2 := i1.call hb2
    go_wp2_with fail
    go_ret
    exact ⟨by rw [hE.out]; rfl, i2⟩
  · rw [hn] at hnm
    by_cases h3 : (n : Int) < 3
    · have hE := Lib.hid (arE_no (z := z) (l := l) (by unfold arOk; rw [decide_eq_false (by omega : ¬ (3 ≤ l.length ∧ l.length ≤ 1024)), hn]; rfl))
      clear hn
      go_enter Try.func24, Try.ntmps24
      go_wp2_with fail
      refine (hnm _).mono ?_; rintro e w2 ⟨rfl, hb2⟩
      have i2 := i1.call hb2
      have d1 : w2.cell? ⟨w.heap.size, 1, none⟩ = some (.slice A n c) := (x1.below hb2 x1.lt).cell 1
      go_wp2_with fail
      go_ret
      exact ⟨by rw [hE.out]; rfl, i2⟩
    · by_cases h4 : (1024 : Int) < (n : Int)
      · have hE := Lib.hid (arE_no (z := z) (l := l) (by unfold arOk; rw [decide_eq_false (by omega : ¬ (3 ≤ l.length ∧ l.length ≤ 1024)), hn]; rfl))
        clear hn
        go_enter Try.func24, Try.ntmps24
        go_wp2_with fail
        refine (hnm _).mono ?_; rintro e w2 ⟨rfl, hb2⟩
        have i2 := i1.call hb2
        have d1 : w2.cell? ⟨w.heap.size, 1, none⟩ = some (.slice A n c) := (x1.below hb2 x1.lt).cell 1
        go_wp2_with fail
        go_ret
        exact ⟨by rw [hE.out]; rfl, i2⟩
      · have HOK := Lib.hid (show arOk z l = okP l by unfold arOk; rw [decide_eq_true (by omega : 3 ≤ l.length ∧ l.length ≤ 1024), hn]; rfl)
        clear hn
        go_enter Try.func24, Try.ntmps24
        go_wp2_with fail
        refine (hnm _).mono ?_; rintro e w2 ⟨rfl, hb2⟩
        have i2 := i1.call hb2
        have d1 : w2.cell? ⟨w.heap.size, 1, none⟩ = some (.slice A n c) := (x1.below hb2 x1.lt).cell 1
        clear i1 hb2 x1 d0
        go_wp2_with fail
        go_loopw [24] (fun i w' => ∃ k : Nat, i = .int .i64 k ∧ k ≤ n ∧ okP (l.take k) = true ∧ BI w w') (fun i _ => n - (intOf i).toNat)
        case atStart => exact ⟨0, rfl, Nat.zero_le _, by simp [okP], i2⟩
        case round =>
          clear i2 d1
          obtain ⟨k, rfl, hk, hall, hb⟩ := hrel
          by_cases hlt : k < n
          · have hlt' : (k : Int) < (n : Int) := by omega
            have hkl : k < l.length := by omega
            obtain ⟨ad, rfl, hrow⟩ := (hR.below (hb.b.mono hB)).row hlt hkl
            have hT := Lib.hid (okP_take hkl)
            have hNo := Lib.hid (okP_no hkl)
            have HA := Lib.hid hall; clear hall
            generalize l[k] = r at *
            have hb1 := hb.alloc (.cells r.A 23)
            have xz := Blk.new wr 23 r.A
            go_wp2_with (first | refine wpList_at_g rfl 23 _ rfl B _ r.A rfl _ hrow Try.underlying23 rfl (by kernel_rfl) ?_ | refine wpList_store_new rfl 23 _ _ rfl rfl wr.heap.size r.A rfl rfl _ #[.int .i64 0, .int .i64 0] wr rfl rfl rfl (by kernel_rfl) (by kernel_rfl) ?_ | refine wpList_row_g rfl 23 _ rfl _ rfl _ _ _ _ xz Try.underlying23 rfl (by kernel_rfl) ?_)
            refine (rcheck_any r _).mono ?_; rintro e w1 ⟨rfl, hb2⟩
            have hb3 := hb1.call hb2
            clear hb1 hb2 hb
            cases hr : r.ok
            · have HF := Lib.hid (hNo.out hr)
              have hv : (chkV r != 0) = true := by unfold chkV; rw [hr]; rfl
              have hE := Lib.hid (arE_no (z := z) (l := l) (by rw [HOK.out, HF.out]))
              clear hr
              go_wp2_with fail
              go_ret
              exact ⟨by rw [hE.out]; rfl, hb3⟩
            · have HF := Lib.hid hr
              have hv : (chkV r != 0) = false := by unfold chkV; rw [hr]; rfl
              clear hr
              go_wp2_with fail
              go_roundw
              case rel => exact ⟨k + 1, by go_num, by omega, by rw [hT.out, HA.out, HF.out]; rfl, hb3⟩
              case measure => simp [intOf]; omega
          · obtain rfl : k = n := by omega
            have hlt' : ¬ (k : Int) < (k : Int) := by omega
            rw [List.take_of_length_le (by omega)] at hall
            have hE := Lib.hid (arE_yes (z := z) (l := l) (by rw [HOK.out, hall]))
            clear hall
            go_wp2_with fail
            go_ret
            exact ⟨by rw [hE.out]; rfl, hb⟩
set_option maxRecDepth 20000 in
set_option maxHeartbeats 1600000 in
theorem raright_any (z : ByteArray) (A : Option Addr) (n c : Nat) (l : List P2) (p : P2) (w : World) (hz : z.size ≤ maxLen) (hR : Pts w w.heap.size A n l) (hm : n ≤ maxLen) :
    Calls Try.prog 59 #[arV z A n c, p.V] w fun e w' => e = .returned (.bool (rtB z l p)) ∧ Below w.heap.size w w' := by
  have i1 := ((BI.start w).alloc (.cells (arA z A n c) 34)).alloc (.cells p.A 23)
  have x1 := (Blk.new w 34 (arA z A n c)).alloc (.cells p.A 23)
  have y1 := blk_at (w.alloc (.cells (arA z A n c) 34)) 23 p.A (sz1 _ _ rfl)
  have hck := racheck_any z A n c w.heap.size l _ hz (hR.below i1.b) i1.b.size hm
  have hpc := fun W => rcheck_any p W
  have hE := Lib.hid (show rtB z l p = (arOk z l && p.ok) by unfold rtB; rw [Bool.and_comm])
  cases ha : arOk z l
  · have hv2 : (arE z l == 0) = false := by rw [arE_no ha]; rfl
    rw [ha] at hE
    clear ha
    go_enter Try.func59, Try.ntmps59
    go_wp2_with (first | refine wpList_row_g rfl 34 _ rfl _ rfl _ _ _ _ x1 Try.underlying34 rfl (by kernel_rfl) ?_)
    refine hck.mono ?_; rintro e w2 ⟨rfl, hb2⟩
    have i2 := i1.call hb2
    go_wp2_with fail
    go_ret
    exact ⟨by rw [hE.out]; rfl, i2⟩
  · have hv2 : (arE z l == 0) = true := by rw [arE_yes ha]; rfl
    rw [ha] at hE
    clear ha
    go_enter Try.func59, Try.ntmps59
    go_wp2_with (first | refine wpList_row_g rfl 34 _ rfl _ rfl _ _ _ _ x1 Try.underlying34 rfl (by kernel_rfl) ?_)
    refine hck.mono ?_; rintro e w2 ⟨rfl, hb2⟩
    have i2 := i1.call hb2
    have y2 := y1.below hb2 y1.lt
    clear i1 x1 y1 hb2 hck
    go_wp2_with (first | refine wpList_row_g rfl 23 _ rfl _ rfl _ _ _ _ y2 Try.underlying23 rfl (by kernel_rfl) ?_)
    refine (hpc _).mono ?_; rintro e w3 ⟨rfl, hb3⟩
    have i3 := i2.call hb3
    clear i2 hpc
    cases hp : p.ok
    · have hv : (chkV p == 0) = false := by unfold chkV; rw [hp]; rfl
      rw [hp] at hE
      clear hp
      go_wp2_with fail
      go_ret
      exact ⟨by rw [hE.out]; rfl, i3⟩
    · have hv : (chkV p == 0) = true := by unfold chkV; rw [hp]; rfl
      rw [hp] at hE
      clear hp
      go_wp2_with fail
      go_ret
      exact ⟨by rw [hE.out]; rfl, i3⟩
def edK (l : List P2) (p : P2) (k : Nat) : Bool := (sidesK l k).any fun s => betV s.1 p s.2
theorem edK_succ (l : List P2) (p : P2) (k : Nat) : edK l p (k + 1) = (edK l p k || betV (pt_ l k) p (pt_ l (nx l k))) := by
  unfold edK; rw [sidesK_succ, List.any_append]; simp
theorem edK_yes {l : List P2} {p : P2} {k : Nat} (hk : k < l.length) (h : betV (pt_ l k) p (pt_ l (nx l k)) = true) : edB l p = true := by
  unfold edB
  rw [List.any_eq_true]
  refine ⟨(pt_ l k, pt_ l (nx l k)), ?_, h⟩
  exact List.mem_map.2 ⟨k, List.mem_range.2 hk, rfl⟩
theorem nx_mod {l : List P2} {n k m : Nat} (hl : l.length = n) (hk : k < n) (hm : nx l k = m) : m < n ∧ ((k : Int) + 1).tmod (n : Int) = (m : Int) := by
  subst hm
  unfold nx
  rw [hl]
  split
  · refine ⟨by omega, ?_⟩
    rw [Int.tmod_eq_emod_of_nonneg (by omega), Int.emod_eq_of_lt (by omega) (by omega)]; omega
  · refine ⟨by omega, ?_⟩
    rw [Int.tmod_eq_emod_of_nonneg (by omega), show (k : Int) + 1 = (n : Int) by omega, Int.emod_self]; rfl
theorem ld_pt2 {w : World} {B : Nat} {r : Addr} {x : P2} (h : Row w B r x.A) : ldT 23 (.pointer (some r)) w = some x.A := by
  refine ldT_of ?_
  have := run_loadVar_at (P := Try.prog) w B r 23 x.A _ h Try.underlying23 rfl (by kernel_rfl)
  simp only [Instr.loadAt, Instr.sureAddr, Sem.run_bind, Sem.run_pure, Result.andThen_ok, this]
theorem ld_at2 {w : World} {B n kk : Nat} {ad : Addr} {l : List P2} {q : P2} (h : Pts w B (some ad) n l) (hK : kk < n) (hq : pt_ l kk = q) : ldT 23 (.pointer (some (ad.add (kk * 2)))) w = some q.A := by
  obtain ⟨ad', e, hr⟩ := h.row (k := kk) hK (by rw [h.1]; exact hK)
  obtain rfl := Option.some.inj e
  rw [pt_eq, hq] at hr
  exact ld_pt2 hr
theorem ld_b {w : World} {g : Nat} {x : P2} (h : Blk w g 23 x.A) : ldT 23 (.pointer (some ⟨g, 0, none⟩)) w = some x.A := ldT_of (ld_seg h Try.underlying23 rfl (by kernel_rfl) (by kernel_rfl))
attribute [local go_sem ↓] Go.wp_at_zero Go.wp_at_succ
attribute [local go_sem ↓] ldA_sem ldP_sem
attribute [local go_sem] ldSem_run
theorem se_mk {w W : World} {n c m uc : Nat} {z : ByteArray} {ad : Addr} {p q1 q2 : P2} {l : List P2} (hq : pt_ l m = q2) (hm : m < n) (iv : BI w W) (hx : Blk W w.heap.size 34 (arA z (some ad) n c)) (hy : Blk W (w.heap.size + 1) 23 p.A) (hu : Blk W uc 23 q1.A) (hr : Pts W W.heap.size (some ad) n l) :
    BI w W ∧ Blk W w.heap.size 34 (arA z (some ad) n c) ∧ Blk W (w.heap.size + 1) 23 p.A ∧ Blk W uc 23 q1.A ∧ Pts W W.heap.size (some ad) n l ∧ W.cell? ⟨w.heap.size, 1, none⟩ = some (.slice (some ad) n c) ∧ ldT 23 (.pointer (some ⟨w.heap.size + 1, 0, none⟩)) W = some p.A ∧ ldT 23 (.pointer (some ⟨uc, 0, none⟩)) W = some q1.A ∧ ldT 23 (.pointer (some (ad.add (m * 2)))) W = some q2.A := ⟨iv, hx, hy, hu, hr, hx.cell 1, ld_b hy, ld_b hu, ld_at2 hr hm hq⟩
theorem pts_ca' {w w' : World} {A : Option Addr} {n : Nat} {l : List P2} (h : Pts w w.heap.size A n l) (hb : Below w.heap.size w w') : Pts w' w'.heap.size A n l := Pts.more (h.below hb) hb.size
theorem se_on {w W W2 : World} {n c m uc : Nat} {z : ByteArray} {ad : Addr} {p q1 q2 : P2} {l : List P2} (hq : pt_ l m = q2) (hm : m < n) (h : BI w W ∧ Blk W w.heap.size 34 (arA z (some ad) n c) ∧ Blk W (w.heap.size + 1) 23 p.A ∧ Blk W uc 23 q1.A ∧ Pts W W.heap.size (some ad) n l ∧ W.cell? ⟨w.heap.size, 1, none⟩ = some (.slice (some ad) n c) ∧ ldT 23 (.pointer (some ⟨w.heap.size + 1, 0, none⟩)) W = some p.A ∧ ldT 23 (.pointer (some ⟨uc, 0, none⟩)) W = some q1.A ∧ ldT 23 (.pointer (some (ad.add (m * 2)))) W = some q2.A) (hb : Below W.heap.size W W2) :
    BI w W2 ∧ Blk W2 w.heap.size 34 (arA z (some ad) n c) ∧ Blk W2 (w.heap.size + 1) 23 p.A ∧ Blk W2 uc 23 q1.A ∧ Pts W2 W2.heap.size (some ad) n l ∧ W2.cell? ⟨w.heap.size, 1, none⟩ = some (.slice (some ad) n c) ∧ ldT 23 (.pointer (some ⟨w.heap.size + 1, 0, none⟩)) W2 = some p.A ∧ ldT 23 (.pointer (some ⟨uc, 0, none⟩)) W2 = some q1.A ∧ ldT 23 (.pointer (some (ad.add (m * 2)))) W2 = some q2.A := by
  obtain ⟨iv, hx, hy, hu, hr, _⟩ := h
  exact se_mk hq hm (iv.call hb) (hx.below hb hx.lt) (hy.below hb hy.lt) (hu.below hb hu.lt) (pts_ca' hr hb)
set_option maxRecDepth 100000 in
set_option maxHeartbeats 6400000 in
theorem rEdge_any (z : ByteArray) (A : Option Addr) (n c : Nat) (l : List P2) (p : P2) (w : World) (hz : z.size ≤ maxLen) (hR : Pts w w.heap.size A n l) (hm : n ≤ maxLen) :
    Calls Try.prog 26 #[arV z A n c, p.V] w fun e w' => e = .returned (.bool (rtB z l p && edB l p)) ∧ Below w.heap.size w w' := by
  have i1 := ((BI.start w).alloc (.cells (arA z A n c) 34)).alloc (.cells p.A 23)
  have x1 := (Blk.new w 34 (arA z A n c)).alloc (.cells p.A 23)
  have y1 := blk_at (w.alloc (.cells (arA z A n c) 34)) 23 p.A (sz1 _ _ rfl)
  have hrt := raright_any z A n c l p _ hz (Pts.more (hR.below i1.b) i1.b.size) hm
  cases hr : rtB z l p
  · rw [hr] at hrt
    clear hr
    go_enter Try.func26, Try.ntmps26
    go_wp2_with (first | refine wpList_row_g rfl 34 _ rfl _ rfl _ _ _ _ x1 Try.underlying34 rfl (by kernel_rfl) ?_ | refine wpList_row_g rfl 23 _ rfl _ rfl _ _ _ _ y1 Try.underlying23 rfl (by kernel_rfl) ?_)
    refine hrt.mono ?_; rintro e w2 ⟨rfl, hb2⟩
    have i2 := i1.call hb2
    go_wp2_with fail
    go_ret
    exact ⟨rfl, i2⟩
  rw [hr] at hrt
  have hll := hR.1
  have hn3 : 3 ≤ n ∧ n ≤ 1024 := by
    unfold rtB at hr
    rw [Bool.and_eq_true] at hr
    have q1 := (ar_iff.1 hr.2).2.1
    omega
  obtain ⟨ad, rfl, -⟩ := hR.row (k := 0) (by omega) (by omega)
  rw [Bool.true_and]
  clear hr
  have HE0 := Lib.hid (fun (h : edK l p n = false) => (show edB l p = false by rw [← h, ← hll]; rfl))
  have HE1 := Lib.hid (fun k hk h => edK_yes (l := l) (p := p) (k := k) hk h)
  generalize edB l p = EB at *
  go_enter Try.func26, Try.ntmps26
  go_wp2_with (first | refine wpList_row_g rfl 34 _ rfl _ rfl _ _ _ _ x1 Try.underlying34 rfl (by kernel_rfl) ?_ | refine wpList_row_g rfl 23 _ rfl _ rfl _ _ _ _ y1 Try.underlying23 rfl (by kernel_rfl) ?_)
  refine hrt.mono ?_; rintro e w2 ⟨rfl, hb2⟩
  have i2 := i1.call hb2
  have x2 := x1.below hb2 x1.lt
  have y2 := y1.below hb2 y1.lt
  clear i1 x1 y1 hb2 hrt
  have d1 : w2.cell? ⟨w.heap.size, 1, none⟩ = some (.slice (some ad) n c) := x2.cell 1
  go_wp2_with fail
  go_loopw [18] (fun i w' => ∃ k : Nat, i = .int .i64 k ∧ k ≤ n ∧ edK l p k = false ∧ BI w w' ∧ Blk w' w.heap.size 34 (arA z (some ad) n c) ∧ Blk w' (w.heap.size + 1) 23 p.A) (fun i _ => n - (intOf i).toNat)
  case atStart => exact ⟨0, rfl, Nat.zero_le _, by simp [edK, sidesK], i2, x2, y2⟩
  case round =>
    clear i2 d1 x2 y2
    obtain ⟨k, rfl, hk, hall, hb, hx, hy⟩ := hrel
    by_cases hlt : k < n
    · have HA := Lib.hid hall; clear hall
      have hnxt := nx_mod (l := l) hll hlt rfl
      obtain ⟨m, hmm⟩ : ∃ m, nx l k = m := ⟨_, rfl⟩
      rw [hmm] at hnxt
      obtain ⟨hmn, hrem⟩ := hnxt
      obtain ⟨q1, hq1⟩ : ∃ q, pt_ l k = q := ⟨_, rfl⟩
      obtain ⟨q2, hq2⟩ : ∃ q, pt_ l m = q := ⟨_, rfl⟩
      have hlt' : (k : Int) < (n : Int) := by omega
      have hmI : (m : Int) < (n : Int) := by omega
      have hn0 : ¬ n = 0 := by omega
      have hn00 : ¬ (n : Int) = 0 := by omega
      have hw1 : IntKind.i64.wrap ((k : Int) + 1) = (k : Int) + 1 := by simp [IntKind.wrap, IntKind.bits, IntKind.signed]; omega
      have hw2 : IntKind.i64.wrap (m : Int) = (m : Int) := by simp [IntKind.wrap, IntKind.bits, IntKind.signed]; omega
      have hrow : Row wr w.heap.size (ad.add (k * 2)) q1.A := by
        obtain ⟨ad', e, hr⟩ := (hR.below hb.b).row (k := k) hlt (by omega)
        obtain rfl := Option.some.inj e
        rwa [pt_eq, hq1] at hr
      have hbt := fun W => rbetween_any q1 p q2 W
      have HT := Lib.hid (show edK l p (k + 1) = (edK l p k || betV q1 p q2) by rw [edK_succ, hmm, hq1, hq2])
      have HY := Lib.hid (fun (h : betV q1 p q2 = true) => HE1.out k (by omega) (by rw [hmm, hq1, hq2]; exact h))
      clear hmm hq1
      have hb1 := hb.alloc (.cells q1.A 23)
      have u1 := Blk.new wr 23 q1.A
      have hx1 := hx.alloc (.cells q1.A 23)
      have hy1 := hy.alloc (.cells q1.A 23)
      clear hb hx hy
      go_wp2_with (first | refine wpList_at_g rfl 23 _ rfl w.heap.size _ q1.A rfl _ hrow Try.underlying23 rfl (by kernel_rfl) ?_ | refine wpList_store_new rfl 23 _ _ rfl rfl wr.heap.size q1.A rfl rfl _ #[.int .i64 0, .int .i64 0] wr rfl rfl rfl (by kernel_rfl) (by kernel_rfl) ?_)
      obtain ⟨W1, hW1⟩ : ∃ W1 : World, W1 = wr.alloc (.cells q1.A 23) := ⟨_, rfl⟩
      obtain ⟨uc, huc⟩ : ∃ uc : Nat, uc = wr.heap.size := ⟨_, rfl⟩
      rw [← hW1] at hb1 u1 hx1 hy1
      rw [← huc] at u1
      rw [← hW1, ← huc]
      clear hW1 huc hrow
      have ZZ := Lib.hid (se_mk (W := W1.drew) hq2 hmn hb1.drew hx1 hy1 u1 (show Pts W1.drew W1.drew.heap.size _ _ _ from Pts.more (hR.below hb1.drew.b) hb1.drew.b.size))
      clear hb1 u1 hx1 hy1
      refine wp_region_held_drew (S := fun w' => BI w w' ∧ Blk w' w.heap.size 34 (arA z (some ad) n c) ∧ Blk w' (w.heap.size + 1) 23 p.A ∧ Blk w' uc 23 q1.A ∧ Pts w' w'.heap.size (some ad) n l ∧ w'.cell? ⟨w.heap.size, 1, none⟩ = some (.slice (some ad) n c) ∧ ldT 23 (.pointer (some ⟨w.heap.size + 1, 0, none⟩)) w' = some p.A ∧ ldT 23 (.pointer (some ⟨uc, 0, none⟩)) w' = some q1.A ∧ ldT 23 (.pointer (some (ad.add (m * 2)))) w' = some q2.A) (by kernel_rfl) (ZZ.out) (fun hHeld => ?_)
      refine wpAnyH_take (i := 0) (oi := { dst := some 23, op := Op.load 23 (Operand.tmp 7), type := 23, pos := "ref.go:38", after := #[], guard := none }) (v := ?_) rfl (by kernel_rfl) (by kernel_rfl) (by kernel_rfl) (fun _ _ _ h => h) (Or.inl ⟨by rfl, ?_⟩) hHeld ?_
      rotate_left
      · intro w hSw
        try dsimp only at hSw
        go_simp
        try with_reducible rfl
      try simp only [Act.put, List.setIfInBounds_toArray, List.set_cons_zero, List.set_cons_succ]
      refine wpAnyH_take (i := 1) (oi := { dst := some 24, op := Op.load 23 (Operand.tmp 3), type := 23, pos := "ref.go:38", after := #[], guard := none }) (v := ?_) rfl (by kernel_rfl) (by kernel_rfl) (by kernel_rfl) (fun _ _ _ h => h) (Or.inl ⟨by rfl, ?_⟩) hHeld ?_
      rotate_left
      · intro w hSw
        try dsimp only at hSw
        go_simp
        try with_reducible rfl
      try simp only [Act.put, List.setIfInBounds_toArray, List.set_cons_zero, List.set_cons_succ]
      refine wpAnyH_take (i := 2) (oi := { dst := some 25, op := Op.fieldAddr 34 (Operand.tmp 2) 1, type := 0, pos := "ref.go:38", after := #[], guard := none }) (v := ?_) rfl (by kernel_rfl) (by kernel_rfl) (by kernel_rfl) (fun _ _ _ h => h) (Or.inl ⟨by rfl, ?_⟩) hHeld ?_
      rotate_left
      · intro w hSw
        try dsimp only at hSw
        go_simp
        try with_reducible rfl
      try simp only [Act.put, List.setIfInBounds_toArray, List.set_cons_zero, List.set_cons_succ]
      refine wpAnyH_take (i := 3) (oi := { dst := some 26, op := Op.load 32 (Operand.tmp 25), type := 32, pos := "ref.go:38", after := #[{ on := 2, ground := Ground.data }], guard := none }) (v := ?_) rfl (by kernel_rfl) (by kernel_rfl) (by kernel_rfl) (fun _ _ _ h => h) (Or.inl ⟨by rfl, ?_⟩) hHeld ?_
      rotate_left
      · intro w hSw
        try dsimp only at hSw
        go_simp
        try with_reducible rfl
      try simp only [Act.put, List.setIfInBounds_toArray, List.set_cons_zero, List.set_cons_succ]
      refine wpAnyH_take (i := 4) (oi := { dst := some 27, op := Op.move (Operand.tmp 6), type := 3, pos := "ref.go:38", after := #[], guard := none }) (v := ?_) rfl (by kernel_rfl) (by kernel_rfl) (by kernel_rfl) (fun _ _ _ h => h) (Or.inl ⟨by rfl, ?_⟩) hHeld ?_
      rotate_left
      · intro w hSw
        try dsimp only at hSw
        go_simp
        try with_reducible rfl
      try simp only [Act.put, List.setIfInBounds_toArray, List.set_cons_zero, List.set_cons_succ]
      refine wpAnyH_take (i := 5) (oi := { dst := some 28, op := Op.binOp BinOp.add 3 (Operand.tmp 27) (Operand.const (Value.int IntKind.i64 1)) 3, type := 3, pos := "ref.go:38", after := #[{ on := 4, ground := Ground.data }], guard := none }) (v := ?_) rfl (by kernel_rfl) (by kernel_rfl) (by kernel_rfl) (fun _ _ _ h => h) (Or.inl ⟨by rfl, ?_⟩) hHeld ?_
      rotate_left
      · intro w hSw
        try dsimp only at hSw
        go_simp
        try with_reducible rfl
      try simp only [Act.put, List.setIfInBounds_toArray, List.set_cons_zero, List.set_cons_succ]
      refine wpAnyH_take (i := 6) (oi := { dst := some 29, op := Op.move (Operand.tmp 5), type := 3, pos := "ref.go:38", after := #[], guard := none }) (v := ?_) rfl (by kernel_rfl) (by kernel_rfl) (by kernel_rfl) (fun _ _ _ h => h) (Or.inl ⟨by rfl, ?_⟩) hHeld ?_
      rotate_left
      · intro w hSw
        try dsimp only at hSw
        go_simp
        try with_reducible rfl
      try simp only [Act.put, List.setIfInBounds_toArray, List.set_cons_zero, List.set_cons_succ]
      refine wpAnyH_take (i := 7) (oi := { dst := some 30, op := Op.binOp BinOp.rem 3 (Operand.tmp 28) (Operand.tmp 29) 3, type := 3, pos := "ref.go:38", after := #[{ on := 5, ground := Ground.data }, { on := 6, ground := Ground.data }], guard := none }) (v := ?_) rfl (by kernel_rfl) (by kernel_rfl) (by kernel_rfl) (fun _ _ _ h => h) (Or.inl ⟨by rfl, ?_⟩) hHeld ?_
      rotate_left
      · intro w hSw
        try dsimp only at hSw
        go_simp
        try with_reducible rfl
      try simp only [Act.put, List.setIfInBounds_toArray, List.set_cons_zero, List.set_cons_succ]
      refine wpAnyH_take (i := 8) (oi := { dst := some 31, op := Op.indexAddr 32 (Operand.tmp 26) (Operand.tmp 30), type := 0, pos := "ref.go:38", after := #[{ on := 3, ground := Ground.data }, { on := 7, ground := Ground.data }], guard := none }) (v := ?_) rfl (by kernel_rfl) (by kernel_rfl) (by kernel_rfl) (fun _ _ _ h => h) (Or.inl ⟨by rfl, ?_⟩) hHeld ?_
      rotate_left
      · intro w hSw
        try dsimp only at hSw
        go_simp
        try with_reducible rfl
      try simp only [Act.put, List.setIfInBounds_toArray, List.set_cons_zero, List.set_cons_succ]
      refine wpAnyH_take (i := 9) (oi := { dst := some 32, op := Op.load 23 (Operand.tmp 31), type := 23, pos := "ref.go:38", after := #[{ on := 8, ground := Ground.data }], guard := none }) (v := ?_) rfl (by kernel_rfl) (by kernel_rfl) (by kernel_rfl) (fun _ _ _ h => h) (Or.inl ⟨by rfl, ?_⟩) hHeld ?_
      rotate_left
      · intro w hSw
        try dsimp only at hSw
        go_simp
        try with_reducible rfl
      try simp only [Act.put, List.setIfInBounds_toArray, List.set_cons_zero, List.set_cons_succ]
      refine wpAnyH_ready (rs := [10]) (by kernel_rfl) (by simp) ?_
      refine AllReadyH.cons (o := { dst := some 33, op := Op.call { callee := Callee.value (Operand.func 60), args := #[Operand.tmp 23, Operand.tmp 24, Operand.tmp 32], argTypes := #[23, 23, 23] }, type := 4, pos := "ref.go:38", after := #[{ on := 0, ground := Ground.data }, { on := 1, ground := Ground.data }, { on := 9, ground := Ground.data }], guard := none }) rfl (fun K hK => ?_) (AllReadyH.nil)
      go_simp
      refine (hbt _).mono ?_; rintro e w3 ⟨rfl, hb3⟩
      try go_wp2_with fail
      refine hK.out _ _ (se_on hq2 hmn hHeld hb3) (fun hHeld2 => ?_)
      clear hK K hHeld; have hHeld := hHeld2; clear hHeld2
      try simp only [Act.put, List.setIfInBounds_toArray, List.set_cons_zero, List.set_cons_succ]
      refine wpAnyH_done (by kernel_rfl) ?_ _
      obtain ⟨j1, jx, jy, -⟩ := hHeld
      clear ZZ
      cases hB : betV q1 p q2
      · have HF := Lib.hid (show edK l p (k + 1) = false by rw [HT.out, HA.out, hB]; rfl)
        clear hbt
        clear hB
        go_wp2_with fail
        go_roundw
        case rel => exact ⟨k + 1, by go_num, by omega, HF.out, j1, jx, jy⟩
        case measure => simp [intOf]; omega
      · have HF := Lib.hid (HY.out hB)
        clear hbt
        clear hB
        go_wp2_with fail
        go_ret
        exact ⟨by rw [HF.out]; rfl, j1⟩
    · obtain rfl : k = n := by omega
      have hlt' : ¬ (k : Int) < (k : Int) := by omega
      have HF := Lib.hid (HE0.out hall)
      clear hall
      go_wp2_with fail
      go_ret
      exact ⟨by rw [HF.out]; rfl, hb⟩
end Go.Proofs.Ytoiccljmdplfgaa.Ar
