/-
  TopOwn: walked.
-/
import Derived.Test.YtoiccljmdplfgaaNq5
import Derived.Test.YtoiccljmdplfgaaNqM
import Derived.Test.YtoiccljmdplfgaaSm
import Derived.Deep.QuietTactic
import Derived.Deep.RegionHeld3
import Derived.RangeFuncBox
namespace Go.Proofs.Ytoiccljmdplfgaa.Nr
open Go.ChangeShapes Go.WideShapes Go.ChangeAt Go.RowKit Go.Shelf
open Go.Proofs.Ytoiccljmdplfgaa
open Go.Proofs.Ytoiccljmdplfgaa.Wd
open Go.Proofs.Ytoiccljmdplfgaa.Pl
open Go.Proofs.Ytoiccljmdplfgaa.Nv
open Go.Proofs.Ytoiccljmdplfgaa.Ar
open Go.Proofs.Ytoiccljmdplfgaa.So (ordF ordF_pm ordF_sd ordF_eq sort_any Pm Sd Lt)
open Go.Proofs.Ytoiccljmdplfgaa.Sr (SoR Hd key net key_inj)
open Go.Proofs.Ytoiccljmdplfgaa.Lk (lead zone_any)
set_option linter.unusedVariables false
set_option linter.unusedSimpArgs false
open Go.Proofs.Ytoiccljmdplfgaa.Ld
theorem ldS_sem (v : Value) : Instr.loadAt 65 v = ldSem 65 v := rfl
attribute [local go_sem ↓] Go.wp_at_zero Go.wp_at_succ
attribute [local go_sem ↓] ldP_sem ldS_sem
attribute [local go_sem] ldSem_run
theorem row_p {w : World} {B : Nat} {q : Addr} {a : Pc} (h : Row w B q a.C) : Row w B ⟨q.block, q.off + 1, none⟩ a.p.A := by
  refine ⟨h.1, fun j v hv => ?_⟩
  have hj : j = 0 ∨ j = 1 := by
    rcases Nat.lt_or_ge j 2 with g | g
    · omega
    · rw [Array.getElem?_eq_none (by show 2 ≤ j; omega)] at hv; cases hv
  rcases hj with rfl | rfl
  · rw [Sl.add_0]; exact Sl.row_cj h 1 (by decide) hv
  · have := Sl.row_cj h 2 (by decide) (v := v) hv
    unfold Addr.add; simpa [Nat.add_assoc] using this
theorem ld_row {w : World} {B : Nat} {q : Addr} {p : P2} (h : Row w B q p.A) : ldT 23 (.pointer (some q)) w = some p.A :=
  ldT_of (by
    have := run_loadVar_at (P := Try.prog) w B q 23 p.A _ h Try.underlying23 rfl (by kernel_rfl)
    simp only [Instr.loadAt, Instr.sureAddr, Sem.run_bind, Sem.run_pure, Result.andThen_ok, this])
theorem own_base {w : World} {base base' size n : Nat} {e : TypeId} {v : Value} {xs : List Value} (h : w.ownsRow base e size v n xs) (hb : base' ≤ base) : w.ownsRow base' e size v n xs := by
  refine ⟨h.1, ?_⟩
  rcases h.2 with h' | ⟨b, cap, cur, h1, h2, h3⟩
  · exact .inl h'
  · exact .inr ⟨b, cap, cur, h1, Nat.le_trans hb h2, h3⟩
theorem t15_mk {w W : World} {gp m : Nat} {h : Hd} {p : P2} {a : Pc} {q : Addr} {v : Value} {xs : List Value} (hx : Blk W w.heap.size 65 h.C) (hp : Blk W gp 23 p.A) (ho : W.ownsRow w.heap.size 3 1 v m xs) (iv : BI w W) (hrow : Row w w.heap.size q a.C) :
    Blk W w.heap.size 65 h.C ∧ Blk W gp 23 p.A ∧ W.ownsRow w.heap.size 3 1 v m xs ∧ BI w W ∧ ldT 23 (.pointer (some ⟨q.block, q.off + 1, none⟩)) W = some a.p.A ∧ ldT 23 (.pointer (some ⟨gp, 0, none⟩)) W = some p.A :=
  ⟨hx, hp, ho, iv, ld_row (row_p (hrow.below iv.b)), ldT_of (ld_seg hp Try.underlying23 rfl (by kernel_rfl) (by kernel_rfl))⟩
theorem t15_on {w W W2 : World} {gp m : Nat} {h : Hd} {p : P2} {a : Pc} {q : Addr} {v : Value} {xs : List Value} (hrow : Row w w.heap.size q a.C) (k : Blk W w.heap.size 65 h.C ∧ Blk W gp 23 p.A ∧ W.ownsRow w.heap.size 3 1 v m xs ∧ BI w W ∧ ldT 23 (.pointer (some ⟨q.block, q.off + 1, none⟩)) W = some a.p.A ∧ ldT 23 (.pointer (some ⟨gp, 0, none⟩)) W = some p.A) (hb : Below W.heap.size W W2) :
    Blk W2 w.heap.size 65 h.C ∧ Blk W2 gp 23 p.A ∧ W2.ownsRow w.heap.size 3 1 v m xs ∧ BI w W2 ∧ ldT 23 (.pointer (some ⟨q.block, q.off + 1, none⟩)) W2 = some a.p.A ∧ ldT 23 (.pointer (some ⟨gp, 0, none⟩)) W2 = some p.A := by
  obtain ⟨hx, hp, ho, iv, _⟩ := k
  exact t15_mk (hx.below hb hx.lt) (hp.below hb hp.lt) (own_below ho hb) (iv.call hb) hrow
theorem t20_mk {w W : World} {h : Hd} {a : Pc} {q : Addr} {z : ByteArray} (hx : Blk W w.heap.size 65 h.C) (iv : BI w W) (hrow : Row w w.heap.size q a.C ∧ a.z = z) :
    Blk W w.heap.size 65 h.C ∧ BI w W ∧ ldT 65 (.pointer (some ⟨w.heap.size, 0, none⟩)) W = some h.C ∧ W.cell? ⟨q.block, q.off + 3, none⟩ = some (.string z) :=
  ⟨hx, iv, ldT_of (ld_seg hx Try.underlying65 rfl (by kernel_rfl) (by kernel_rfl)), by rw [← hrow.2]; exact Sl.row_cj (hrow.1.below iv.b) 3 (by decide) rfl⟩
theorem t20_on {w W W2 : World} {h : Hd} {a : Pc} {q : Addr} {z : ByteArray} (hrow : Row w w.heap.size q a.C ∧ a.z = z) (k : Blk W w.heap.size 65 h.C ∧ BI w W ∧ ldT 65 (.pointer (some ⟨w.heap.size, 0, none⟩)) W = some h.C ∧ W.cell? ⟨q.block, q.off + 3, none⟩ = some (.string z)) (hb : Below W.heap.size W W2) :
    Blk W2 w.heap.size 65 h.C ∧ BI w W2 ∧ ldT 65 (.pointer (some ⟨w.heap.size, 0, none⟩)) W2 = some h.C ∧ W2.cell? ⟨q.block, q.off + 3, none⟩ = some (.string z) := by
  obtain ⟨hx, iv, _⟩ := k
  exact t20_mk (hx.below hb hx.lt) (iv.call hb) hrow
theorem pc_ok {L : List Pc} (h : pcE L = 0) {i : Nat} (hi : i < L.length) : chkV (pc_ L i).p = 0 := by
  unfold pcE at h
  by_cases h1 : 4096 < L.length
  · rw [if_pos h1] at h; simp at h
  · rw [if_neg h1] at h
    by_cases h2 : pcsB L = true
    · have := List.all_eq_true.1 (show L.all Pc.okB = true from h2) _ (pc_mem hi)
      unfold Pc.okB at this
      simp only [Bool.and_eq_true] at this
      unfold chkV
      rw [if_pos this.2.1]
    · rw [if_neg h2] at h; simp at h
theorem zq_first {S : Sr.So} {L : List Pc} {ord : Nat → Nat} {n : Nat} {b : ByteArray} {E : Int} (h : ZnQ S L ord n b E) (hn : 0 < n) (hz : okZ S (key (pc_ L (ord 0)).z)) : b = (pc_ L (ord 0)).z ∧ E = 0 := by
  rcases h with ⟨j, q1, q2, q3, q4, q5⟩ | ⟨q1, _⟩
  · by_cases hj : j = 0
    · subst hj; exact ⟨q2, q5⟩
    · exact absurd hz (q4 0 (by omega))
  · exact absurd hz (q1 0 hn)
set_option maxRecDepth 100000 in
set_option maxHeartbeats 12800000 in
theorem own_any (A : Option Addr) (n c : Nat) (L : List Pc) (h : Hd) (S : Sr.So) (k : Int) (w : World) (hR : Pcs w w.heap.size A n L) (hm : n ≤ maxLen) (hS : SoR w w.heap.size h S) (hk : 0 ≤ k ∧ k ≤ 255) :
    Calls Try.prog 12 #[.slice A n c, h.V, .int .u8 k] w fun e w' => e = .returned (.bool true) ∧ Below w.heap.size w w' := by
  have hll := hR.len
  have hzn := hS.zm.1; have hln := hS.lm.1
  have i1 := (BI.start w).alloc (.cells h.C 65)
  have xs := Blk.new w 65 h.C
  go_enter Try.func12, Try.ntmps12
  go_upto_region 1 with fail
  generalize w.alloc (.cells h.C 65) = W0 at *
  go_wp2_with fail
  refine (begins22_any _).mono ?_; rintro e w2 ⟨rfl, hb⟩
  replace xs := xs.below hb xs.lt; replace i1 := i1.call hb
  clear hb
  go_wp2_with fail
  refine (small42_any A n c L _ ((hR.below i1.b).more i1.b.size) hm).mono ?_; rintro e w3 ⟨hc, hb⟩
  replace xs := xs.below hb xs.lt; replace i1 := i1.call hb
  clear hb
  rcases hc with rfl | ⟨rfl, hF⟩
  · go_wp2_with fail
    go_ret
    exact ⟨rfl, i1⟩
  go_wp2_with (refine wpList_row_g rfl 65 _ rfl _ rfl _ _ _ _ xs Try.underlying65 rfl (by kernel_rfl) ?_)
  refine (Sr.small_any h S _ ((hS.below i1.b).more i1.b.size)).mono ?_; rintro e w4 ⟨hc, hb⟩
  replace xs := xs.below hb xs.lt; replace i1 := i1.call hb
  clear hb
  rcases hc with rfl | ⟨rfl, hs⟩
  · go_wp2_with fail
    go_ret
    exact ⟨rfl, i1⟩
  go_wp2_with fail
  refine (pcheck_any A n c L _ ((hR.below i1.b).more i1.b.size) hm).mono ?_; rintro e w5 ⟨rfl, hb⟩
  replace xs := xs.below hb xs.lt; replace i1 := i1.call hb
  clear hb
  by_cases hE : pcE L = 0
  rotate_left
  · generalize pcE L = E at *
    have hv : (E != 0) = true := by simp [hE]
    clear hE
    go_wp2_with fail
    go_ret
    exact ⟨rfl, i1⟩
  by_cases hn0 : n = 0
  · subst hn0
    have hv : (pcE L != 0) = false := by simp [hE]
    generalize pcE L = E at *
    go_wp2_with fail
    go_ret
    exact ⟨rfl, i1⟩
  obtain ⟨i, hi0⟩ : ∃ i : Nat, k.tmod (n : Int) = (i : Int) := ⟨(k % n).toNat, by rw [Int.tmod_eq_emod_of_nonneg hk.1]; have := Int.emod_nonneg k (show (n : Int) ≠ 0 by omega); omega⟩
  have hi1 : i < n := by rw [Int.tmod_eq_emod_of_nonneg hk.1] at hi0; have := Int.emod_lt_of_pos k (show 0 < (n : Int) by omega); omega
  have hi2 : (i : Int) < (n : Int) := by omega
  have hn60 : n ≤ 60 := by rw [← hll]; exact hF.1
  have hnc : ncE L (pc_ L i).p = 0 := by unfold ncE; rw [if_pos hE]; exact pc_ok hE (by omega)
  have hfst := own_first L hi1
  have hlz := hs.zn; have hll2 := hs.ln
  obtain ⟨ad, rfl, hrow0⟩ := hR.row hi1
  have hrp := fun {W : World} (hb : BI w W) => row_p (hrow0.below hb.b)
  have hself := far_self L i
  obtain ⟨p, hp⟩ : ∃ p, (pc_ L i).p = p := ⟨_, rfl⟩
  rw [hp] at hnc hfst hself
  simp only [hp] at hrp
  have hsort := So.sort_any (far_ L p) n hn60
  have horl := ord_lt (far_ L p) (show 0 < n by omega)
  have hzone := fun W hR' hS' => nzone_ok (some ad) n c L p h S W hR' hS' hm hnc hn60 (by omega) (by omega)
  have hwith := fun W hR' => within_ok (some ad) n c L p 0 W hR' hm hnc
  have hnear := fun W hR' => near_ok (some ad) n c L p W hR' hm hnc _ hsort
  simp only [if_neg hn0] at hnear
  generalize hord : ordF (far_ L p) n = ord at *
  obtain ⟨hf1, hf2, t, hf3⟩ := hfst
  have hv : (pcE L != 0) = false := by simp [hE]
  have hn1 : ((n : Int) == 0) = false := by simp; omega
  clear hE hp hrow0 hord hsort hF hs hnc
  generalize pcE L = E at *
  obtain ⟨W, rfl⟩ : ∃ W : World, W = w5 := ⟨_, rfl⟩
  have hrp5 := hrp i1
  have xp := Blk.new W 23 p.A
  replace xs := xs.alloc (.cells p.A 23); replace i1 := i1.alloc (.cells p.A 23)
  have HZ := Lib.hid hzone; have HW := Lib.hid hwith; have HN := Lib.hid hnear
  clear hzone hwith hnear
  obtain ⟨o, ho⟩ : ∃ o, ord 0 = o := ⟨_, rfl⟩
  rw [ho] at hf1 hf2 hf3 horl
  have HO := Lib.hid ho; clear ho
  go_upto_region 7 with (first | refine wpList_at_g rfl 23 _ rfl w.heap.size _ p.A rfl _ hrp5 Try.underlying23 rfl (by kernel_rfl) ?_ | refine wpList_store_new rfl 23 _ _ rfl rfl W.heap.size p.A rfl rfl _ #[.int .i64 0, .int .i64 0] W rfl rfl rfl (by kernel_rfl) (by kernel_rfl) ?_)
  obtain ⟨gp, hgp⟩ : ∃ g, W.heap.size = g := ⟨_, rfl⟩
  rw [hgp] at xp
  generalize W.alloc (.cells p.A 23) = W1 at *
  rw [hgp]
  clear hgp hrp5
  have hcN := HN.out W1 ((hR.below i1.b).more i1.b.size)
  rw [HO.out] at hcN
  go_wp2_with (refine wpList_row_g rfl 23 _ rfl _ rfl _ _ _ _ xp Try.underlying23 rfl (by kernel_rfl) ?_)
  refine hcN.mono ?_; rintro e w6 ⟨rfl, hb⟩
  replace xs := xs.below hb xs.lt; replace xp := xp.below hb xp.lt; replace i1 := i1.call hb
  clear hb hcN
  have hcW := HW.out w6 ((hR.below i1.b).more i1.b.size)
  go_wp2_with (refine wpList_row_g rfl 23 _ rfl _ rfl _ _ _ _ xp Try.underlying23 rfl (by kernel_rfl) ?_)
  refine hcW.mono ?_; rintro e w7 ⟨v, rfl, hb, ho⟩
  replace xs := xs.below hb xs.lt; replace xp := xp.below hb xp.lt; 
  replace ho := own_base ho i1.b.size
  replace i1 := i1.call hb
  clear hb hcW
  have hall : ∀ x, x ∈ wiL L p 0 n → x < n ∧ far_ L p x = 0 := fun x hx => by
    have := (wi_mem L p 0 x n).1 hx
    exact ⟨this.1, by have := far_nonneg L p x; omega⟩
  have hin : i ∈ wiL L p 0 n := (wi_mem L p 0 i n).2 ⟨hi1, by omega⟩
  have hcell0 : (inV (wiL L p 0 n))[0]? = some (.int .i64 (o : Int)) := by rw [hf3]; rfl
  have hm0 : 0 < (wiL L p 0 n).length := by rw [hf3]; simp
  clear hf3
  generalize wiL L p 0 n = l at *
  have hlm : l.length ≤ maxLen := by
    rcases ho.2 with ⟨_, e⟩ | ⟨_, cap, _, _, _, _, e, e2, _⟩
    · omega
    · omega
  obtain ⟨m, hlen⟩ : ∃ m, l.length = m + 1 := ⟨l.length - 1, by omega⟩
  rw [hlen] at ho hlm
  unfold maxLen at hlm
  obtain ⟨gI, cI, rfl⟩ := ownsRow_succ ho
  have c0 := (ho.cellAt 0 (by omega)).trans hcell0
  have ho1 : (0 : Int) ≤ (o : Int) := by omega
  have ho2 : ¬ (i : Int) < (o : Int) := by omega
  have hd1 : decide ((o : Int) < 0) = false := decide_eq_false (by omega)
  have hd2 : decide (i < o) = false := decide_eq_false (by omega)
  have hd3 : decide ((m : Int) + 1 < 1) = false := decide_eq_false (by omega)
  have hd4 : decide ((i : Int) < (o : Int)) = false := decide_eq_false (by omega)
  have HL := Lib.hid hall; have HI := Lib.hid hin; have HLN := Lib.hid hlen
  have hoA := ho
  clear hall hin hlen hcell0 hm0
  go_wp2_with fail
  go_loopw [13, 91] (fun mv iv wr => ∃ j : Nat, iv = .int .i64 j ∧ j ≤ m + 1 ∧ mv = .bool (decide (i ∈ l.take j)) ∧ Blk wr w.heap.size 65 h.C ∧ Blk wr gp 23 p.A ∧ wr.ownsRow w.heap.size 3 1 (.slice (some ⟨gI, 0, none⟩) (m + 1) cI) (m + 1) (inV l) ∧ BI w wr) (fun _ iv _ => m + 1 - (intOf iv).toNat)
  case atStart => exact ⟨0, rfl, Nat.zero_le _, by rw [List.take_zero]; simp, xs, xp, hoA, i1⟩
  case round =>
    clear xs xp ho hoA i1 c0
    obtain ⟨j, rfl, hj, rfl, xs, xp, ho, i1⟩ := hrel
    by_cases hlt : j < m + 1
    · have hlt' : (j : Int) < ((m : Int) + 1) := by omega
      have hjl : j < l.length := by rw [HLN.out]; exact hlt
      have HTK := Lib.hid (show l.take (j + 1) = l.take j ++ [l[j]] from List.take_succ_eq_append_getElem hjl)
      have hx := HL.out l[j] (List.getElem_mem hjl)
      have hcj : (inV l)[j]? = some (.int .i64 (l[j] : Int)) := by rw [List.getElem?_map, List.getElem?_eq_getElem hjl]; rfl
      have c1 := (ho.cellAt j (by omega)).trans hcj
      clear hcj
      generalize l[j] = x at *
      obtain ⟨hx1, hx2⟩ := hx
      have hx3 : (x : Int) < (n : Int) := by omega
      have hx4 : ¬ (n : Int) ≤ (x : Int) := by omega
      obtain ⟨ad', e0, hrow⟩ := hR.row hx1
      obtain rfl : ad = ad' := Option.some.inj e0
      clear e0
      have hdi := fun W => dist_any (pc_ L x).p p W
      rw [show distV (pc_ L x).p p = 0 from hx2] at hdi
      clear hx2
      generalize pc_ L x = a at *
      obtain ⟨q, hq⟩ : ∃ q, ad.add (x * 4) = q := ⟨_, rfl⟩
      rw [hq] at hrow
      have ZZ := Lib.hid (t15_mk (W := wr.drew) xs xp ho i1.drew hrow)
      obtain ⟨mine, hmine⟩ : ∃ b : Bool, decide (i ∈ l.take j) = b := ⟨_, rfl⟩
      rw [hmine]
      clear xs xp ho i1
      go_upto_region 15 with fail
      refine wp_region_held_drew (S := fun w' => Blk w' w.heap.size 65 h.C ∧ Blk w' gp 23 p.A ∧ w'.ownsRow w.heap.size 3 1 (.slice (some ⟨gI, 0, none⟩) (m + 1) cI) (m + 1) (inV l) ∧ BI w w' ∧ ldT 23 (.pointer (some ⟨q.block, q.off + 1, none⟩)) w' = some a.p.A ∧ ldT 23 (.pointer (some ⟨gp, 0, none⟩)) w' = some p.A) (by kernel_rfl) (ZZ.out) (fun hHeld => ?_)
      refine wpAnyH_take (i := 0) (oi := { dst := some 95, op := Op.move (Operand.tmp 15), type := 3, pos := "top22.go:40", after := #[], guard := none }) (v := ?_) rfl (by kernel_rfl) (by kernel_rfl) (by kernel_rfl) (fun _ _ _ h => h) (Or.inl ⟨by rfl, ?_⟩) hHeld ?_
      rotate_left
      · intro w hSw
        try dsimp only at hSw
        go_simp
        try with_reducible rfl
      try simp only [Act.put, List.setIfInBounds_toArray, List.set_cons_zero, List.set_cons_succ]
      refine wpAnyH_take (i := 1) (oi := { dst := some 96, op := Op.binOp BinOp.lss 3 (Operand.tmp 95) (Operand.const (Value.int IntKind.i64 0)) 3, type := 4, pos := "top22.go:40", after := #[{ on := 0, ground := Ground.data }], guard := none }) (v := ?_) rfl (by kernel_rfl) (by kernel_rfl) (by kernel_rfl) (fun _ _ _ h => h) (Or.inl ⟨by rfl, ?_⟩) hHeld ?_
      rotate_left
      · intro w hSw
        try dsimp only at hSw
        go_simp
        try with_reducible rfl
      try simp only [Act.put, List.setIfInBounds_toArray, List.set_cons_zero, List.set_cons_succ]
      refine wpAnyH_take (i := 2) (oi := { dst := some 97, op := Op.move (Operand.tmp 96), type := 4, pos := "top22.go:40", after := #[{ on := 1, ground := Ground.data }], guard := none }) (v := ?_) rfl (by kernel_rfl) (by kernel_rfl) (by kernel_rfl) (fun _ _ _ h => h) (Or.inl ⟨by rfl, ?_⟩) hHeld ?_
      rotate_left
      · intro w hSw
        try dsimp only at hSw
        go_simp
        try with_reducible rfl
      try simp only [Act.put, List.setIfInBounds_toArray, List.set_cons_zero, List.set_cons_succ]
      refine wpAnyH_take (i := 3) (oi := { dst := some 98, op := Op.move (Operand.tmp 15), type := 3, pos := "top22.go:40", after := #[{ on := 2, ground := Ground.guard }], guard := some (2, false) }) (v := ?_) rfl (by kernel_rfl) (by kernel_rfl) (by kernel_rfl) (fun _ _ _ h => h) (Or.inl ⟨by rfl, ?_⟩) hHeld ?_
      rotate_left
      · intro w hSw
        try dsimp only at hSw
        go_simp
        try with_reducible rfl
      try simp only [Act.put, List.setIfInBounds_toArray, List.set_cons_zero, List.set_cons_succ]
      refine wpAnyH_take (i := 4) (oi := { dst := some 99, op := Op.move (Operand.tmp 0), type := 51, pos := "top22.go:40", after := #[{ on := 2, ground := Ground.guard }], guard := some (2, false) }) (v := ?_) rfl (by kernel_rfl) (by kernel_rfl) (by kernel_rfl) (fun _ _ _ h => h) (Or.inl ⟨by rfl, ?_⟩) hHeld ?_
      rotate_left
      · intro w hSw
        try dsimp only at hSw
        go_simp
        try with_reducible rfl
      try simp only [Act.put, List.setIfInBounds_toArray, List.set_cons_zero, List.set_cons_succ]
      refine wpAnyH_take (i := 5) (oi := { dst := some 100, op := Op.call { callee := Callee.builtin Builtin.len, args := #[Operand.tmp 99], argTypes := #[51] }, type := 3, pos := "top22.go:40", after := #[{ on := 4, ground := Ground.data }, { on := 2, ground := Ground.guard }], guard := some (2, false) }) (v := ?_) rfl (by kernel_rfl) (by kernel_rfl) (by kernel_rfl) (fun _ _ _ h => h) (Or.inl ⟨by rfl, ?_⟩) hHeld ?_
      rotate_left
      · intro w hSw
        try dsimp only at hSw
        go_simp
        try with_reducible rfl
      try simp only [Act.put, List.setIfInBounds_toArray, List.set_cons_zero, List.set_cons_succ]
      refine wpAnyH_take (i := 6) (oi := { dst := some 101, op := Op.binOp BinOp.geq 3 (Operand.tmp 98) (Operand.tmp 100) 3, type := 4, pos := "top22.go:40", after := #[{ on := 3, ground := Ground.data }, { on := 5, ground := Ground.data }, { on := 2, ground := Ground.guard }], guard := some (2, false) }) (v := ?_) rfl (by kernel_rfl) (by kernel_rfl) (by kernel_rfl) (fun _ _ _ h => h) (Or.inl ⟨by rfl, ?_⟩) hHeld ?_
      rotate_left
      · intro w hSw
        try dsimp only at hSw
        go_simp
        try with_reducible rfl
      try simp only [Act.put, List.setIfInBounds_toArray, List.set_cons_zero, List.set_cons_succ]
      refine wpAnyH_take (i := 7) (oi := { dst := some 102, op := Op.pick (Operand.tmp 97) (Operand.const (Value.bool true)) (Operand.tmp 101), type := 4, pos := "top22.go:40", after := #[{ on := 2, ground := Ground.data }, { on := 6, ground := Ground.data }], guard := none }) (v := ?_) rfl (by kernel_rfl) (by kernel_rfl) (by kernel_rfl) (fun _ _ _ h => h) (Or.inl ⟨by rfl, ?_⟩) hHeld ?_
      rotate_left
      · intro w hSw
        try dsimp only at hSw
        go_simp
        try with_reducible rfl
      try simp only [Act.put, List.setIfInBounds_toArray, List.set_cons_zero, List.set_cons_succ]
      refine wpAnyH_take (i := 8) (oi := { dst := some 103, op := Op.move (Operand.tmp 102), type := 4, pos := "top22.go:40", after := #[{ on := 7, ground := Ground.data }, { on := 2, ground := Ground.chain }], guard := none }) (v := ?_) rfl (by kernel_rfl) (by kernel_rfl) (by kernel_rfl) (fun _ _ _ h => h) (Or.inl ⟨by rfl, ?_⟩) hHeld ?_
      rotate_left
      · intro w hSw
        try dsimp only at hSw
        go_simp
        try with_reducible rfl
      try simp only [Act.put, List.setIfInBounds_toArray, List.set_cons_zero, List.set_cons_succ]
      refine wpAnyH_take (i := 9) (oi := { dst := some 104, op := Op.move (Operand.tmp 0), type := 51, pos := "top22.go:40", after := #[{ on := 8, ground := Ground.guard }], guard := some (8, false) }) (v := ?_) rfl (by kernel_rfl) (by kernel_rfl) (by kernel_rfl) (fun _ _ _ h => h) (Or.inl ⟨by rfl, ?_⟩) hHeld ?_
      rotate_left
      · intro w hSw
        try dsimp only at hSw
        go_simp
        try with_reducible rfl
      try simp only [Act.put, List.setIfInBounds_toArray, List.set_cons_zero, List.set_cons_succ]
      refine wpAnyH_take (i := 10) (oi := { dst := some 105, op := Op.move (Operand.tmp 15), type := 3, pos := "top22.go:40", after := #[{ on := 8, ground := Ground.guard }], guard := some (8, false) }) (v := ?_) rfl (by kernel_rfl) (by kernel_rfl) (by kernel_rfl) (fun _ _ _ h => h) (Or.inl ⟨by rfl, ?_⟩) hHeld ?_
      rotate_left
      · intro w hSw
        try dsimp only at hSw
        go_simp
        try with_reducible rfl
      try simp only [Act.put, List.setIfInBounds_toArray, List.set_cons_zero, List.set_cons_succ]
      refine wpAnyH_take (i := 11) (oi := { dst := some 106, op := Op.indexAddr 51 (Operand.tmp 104) (Operand.tmp 105), type := 0, pos := "top22.go:40", after := #[{ on := 9, ground := Ground.data }, { on := 10, ground := Ground.data }, { on := 8, ground := Ground.guard }], guard := some (8, false) }) (v := ?_) rfl (by kernel_rfl) (by kernel_rfl) (by kernel_rfl) (fun _ _ _ h => h) (Or.inl ⟨by rfl, ?_⟩) hHeld ?_
      rotate_left
      · intro w hSw
        try dsimp only at hSw
        go_simp
        try with_reducible rfl
      try simp only [Act.put, List.setIfInBounds_toArray, List.set_cons_zero, List.set_cons_succ]
      refine wpAnyH_take (i := 12) (oi := { dst := some 107, op := Op.fieldAddr 67 (Operand.tmp 106) 1, type := 0, pos := "top22.go:40", after := #[{ on := 11, ground := Ground.data }, { on := 8, ground := Ground.guard }], guard := some (8, false) }) (v := ?_) rfl (by kernel_rfl) (by kernel_rfl) (by kernel_rfl) (fun _ _ _ h => h) (Or.inl ⟨by rfl, ?_⟩) hHeld ?_
      rotate_left
      · intro w hSw
        try dsimp only at hSw
        go_simp
        try with_reducible rfl
      try simp only [Act.put, List.setIfInBounds_toArray, List.set_cons_zero, List.set_cons_succ]
      refine wpAnyH_take (i := 13) (oi := { dst := some 108, op := Op.load 23 (Operand.tmp 107), type := 23, pos := "top22.go:40", after := #[{ on := 12, ground := Ground.data }, { on := 8, ground := Ground.guard }], guard := some (8, false) }) (v := ?_) rfl (by kernel_rfl) (by kernel_rfl) (by kernel_rfl) (fun _ _ _ h => h) (Or.inl ⟨by rfl, ?_⟩) hHeld ?_
      rotate_left
      · intro w hSw
        try dsimp only at hSw
        go_simp
        try with_reducible rfl
      try simp only [Act.put, List.setIfInBounds_toArray, List.set_cons_zero, List.set_cons_succ]
      refine wpAnyH_take (i := 14) (oi := { dst := some 109, op := Op.load 23 (Operand.tmp 8), type := 23, pos := "top22.go:40", after := #[{ on := 8, ground := Ground.guard }], guard := some (8, false) }) (v := ?_) rfl (by kernel_rfl) (by kernel_rfl) (by kernel_rfl) (fun _ _ _ h => h) (Or.inl ⟨by rfl, ?_⟩) hHeld ?_
      rotate_left
      · intro w hSw
        try dsimp only at hSw
        go_simp
        try with_reducible rfl
      try simp only [Act.put, List.setIfInBounds_toArray, List.set_cons_zero, List.set_cons_succ]
      refine wpAnyH_ready (rs := [15]) (by kernel_rfl) (by simp) ?_
      refine AllReadyH.cons (o := { dst := some 110, op := Op.call { callee := Callee.value (Operand.func 17), args := #[Operand.tmp 108, Operand.tmp 109], argTypes := #[23, 23] }, type := 2, pos := "top22.go:40", after := #[{ on := 13, ground := Ground.data }, { on := 14, ground := Ground.data }, { on := 8, ground := Ground.chain }, { on := 8, ground := Ground.guard }], guard := some (8, false) }) rfl (fun K hK => ?_) (AllReadyH.nil)
      go_simp
      refine (hdi _).mono ?_; rintro e w_1 ⟨rfl, hb_1⟩
      try go_wp2_with fail
      refine hK.out _ _ (t15_on hrow hHeld hb_1) (fun hHeld2 => ?_)
      clear hK K hHeld; have hHeld := hHeld2; clear hHeld2
      try simp only [Act.put, List.setIfInBounds_toArray, List.set_cons_zero, List.set_cons_succ]
      refine wpAnyH_take (i := 16) (oi := { dst := some 111, op := Op.binOp BinOp.neq 2 (Operand.tmp 110) (Operand.const (Value.int IntKind.i64 0)) 2, type := 4, pos := "top22.go:40", after := #[{ on := 15, ground := Ground.data }, { on := 8, ground := Ground.guard }], guard := some (8, false) }) (v := ?_) rfl (by kernel_rfl) (by kernel_rfl) (by kernel_rfl) (fun _ _ _ h => h) (Or.inl ⟨by rfl, ?_⟩) hHeld ?_
      rotate_left
      · intro w hSw
        try dsimp only at hSw
        go_simp
        try with_reducible rfl
      try simp only [Act.put, List.setIfInBounds_toArray, List.set_cons_zero, List.set_cons_succ]
      refine wpAnyH_take (i := 17) (oi := { dst := some 112, op := Op.pick (Operand.tmp 103) (Operand.const (Value.bool true)) (Operand.tmp 111), type := 4, pos := "top22.go:40", after := #[{ on := 8, ground := Ground.data }, { on := 16, ground := Ground.data }], guard := none }) (v := ?_) rfl (by kernel_rfl) (by kernel_rfl) (by kernel_rfl) (fun _ _ _ h => h) (Or.inl ⟨by rfl, ?_⟩) hHeld ?_
      rotate_left
      · intro w hSw
        try dsimp only at hSw
        go_simp
        try with_reducible rfl
      try simp only [Act.put, List.setIfInBounds_toArray, List.set_cons_zero, List.set_cons_succ]
      refine wpAnyH_done (by kernel_rfl) ?_ _
      obtain ⟨xs, xp, ho, i1, -⟩ := hHeld
      clear ZZ hdi
      have hstep : decide (i ∈ l.take (j + 1)) = (mine || decide ((x : Int) = (i : Int))) := by
        rw [HTK.out, ← hmine]
        by_cases e1 : i ∈ l.take j
        · simp [e1]
        · by_cases e2 : x = i
          · simp [e1, e2]
          · have e3 : ¬ (x : Int) = (i : Int) := by omega
            have e4 : ¬ i = x := fun e => e2 e.symm
            simp [e1, e3, e4]
      have HST := Lib.hid hstep
      clear hstep hmine HTK
      cases mine with
      | true =>
        go_wp2_with fail
        go_roundw
        case rel => exact ⟨j + 1, by go_num, by omega, by rw [HST.out]; rfl, xs, xp, ho, i1⟩
        case measure => simp [intOf]; omega
      | false =>
        by_cases hxi : (x : Int) = (i : Int)
        · have hb1 : ((x : Int) == (i : Int)) = true := by simp [hxi]
          have hb2 : decide ((x : Int) = (i : Int)) = true := by simp [hxi]
          have HB2 := Lib.hid hb2; clear hb2 hxi
          go_wp2_with fail
          go_roundw
          case rel => exact ⟨j + 1, by go_num, by omega, by rw [HST.out, HB2.out]; rfl, xs, xp, ho, i1⟩
          case measure => simp [intOf]; omega
        · have hb1 : ((x : Int) == (i : Int)) = false := by simp [hxi]
          have hb2 : decide ((x : Int) = (i : Int)) = false := by simp [hxi]
          have HB2 := Lib.hid hb2; clear hb2 hxi
          go_wp2_with fail
          go_roundw
          case rel => exact ⟨j + 1, by go_num, by omega, by rw [HST.out, HB2.out]; rfl, xs, xp, ho, i1⟩
          case measure => simp [intOf]; omega
    · obtain rfl : j = m + 1 := by omega
      have hlt' : ¬ ((m : Int) + 1) < ((m : Int) + 1) := by omega
      have hmine : decide (i ∈ l.take (m + 1)) = true := by rw [List.take_of_length_le (by rw [HLN.out]; omega)]; exact decide_eq_true HI.out
      rw [hmine]
      obtain ⟨w9, rfl⟩ : ∃ w9 : World, w9 = wr := ⟨_, rfl⟩
      have hcZ := HZ.out w9 ((hR.below i1.b).more i1.b.size) ((hS.below i1.b).more i1.b.size)
      clear ho
      go_wp2_with (first | refine wpList_row_g rfl 65 _ rfl _ rfl _ _ _ _ xs Try.underlying65 rfl (by kernel_rfl) ?_ | refine wpList_row_g rfl 23 _ rfl _ rfl _ _ _ _ xp Try.underlying23 rfl (by kernel_rfl) ?_)
      refine hcZ.mono ?_; rintro e w10 ⟨b, E2, rfl, hb, hzq⟩
      replace xs := xs.below hb xs.lt; replace i1 := i1.call hb
      clear hb hcZ xp
      obtain ⟨ad', e0, hrow⟩ := hR.row horl
      obtain rfl : ad = ad' := Option.some.inj e0
      clear e0
      have ho3 : (o : Int) < (n : Int) := by omega
      have hbz := (hR.p _ (pc_mem (show o < L.length by omega))).2
      have hq1 := fun q => zq_first hzq (by omega) q
      rw [HO.out] at hq1
      clear hzq
      generalize pc_ L o = a at *
      obtain ⟨q, hq⟩ : ∃ q, ad.add (o * 4) = q := ⟨_, rfl⟩
      rw [hq] at hrow
      obtain ⟨z, hz⟩ : ∃ z, a.z = z := ⟨_, rfl⟩
      rw [hz] at hbz hq1
      replace hrow : Row w w.heap.size q a.C ∧ a.z = z := ⟨hrow, hz⟩
      have hzo := fun W (hW : Below w.heap.size w W) => zone_any h S z W ((hS.below hW).more hW.size) hbz (by omega) (by omega)
      unfold okZ at hq1
      generalize lead (net S) (key z) = ld at *
      have ZZ := Lib.hid (t20_mk (W := w10.drew) xs i1.drew hrow)
      have HQ1 := Lib.hid hq1
      clear xs i1 hq1 hz
      go_upto_region 20 with fail
      refine wp_region_held_drew (S := fun w' => Blk w' w.heap.size 65 h.C ∧ BI w w' ∧ ldT 65 (.pointer (some ⟨w.heap.size, 0, none⟩)) w' = some h.C ∧ w'.cell? ⟨q.block, q.off + 3, none⟩ = some (.string z)) (by kernel_rfl) (ZZ.out) (fun hHeld => ?_)
      refine wpAnyH_take (i := 0) (oi := { dst := some 128, op := Op.load 65 (Operand.tmp 4), type := 65, pos := "top22.go:46", after := #[], guard := none }) (v := ?_) rfl (by kernel_rfl) (by kernel_rfl) (by kernel_rfl) (fun _ _ _ h => h) (Or.inl ⟨by rfl, ?_⟩) hHeld ?_
      rotate_left
      · intro w hSw
        try dsimp only at hSw
        go_simp
        try with_reducible rfl
      try simp only [Act.put, List.setIfInBounds_toArray, List.set_cons_zero, List.set_cons_succ]
      refine wpAnyH_take (i := 1) (oi := { dst := some 129, op := Op.move (Operand.tmp 0), type := 51, pos := "top22.go:46", after := #[], guard := none }) (v := ?_) rfl (by kernel_rfl) (by kernel_rfl) (by kernel_rfl) (fun _ _ _ h => h) (Or.inl ⟨by rfl, ?_⟩) hHeld ?_
      rotate_left
      · intro w hSw
        try dsimp only at hSw
        go_simp
        try with_reducible rfl
      try simp only [Act.put, List.setIfInBounds_toArray, List.set_cons_zero, List.set_cons_succ]
      refine wpAnyH_take (i := 2) (oi := { dst := some 130, op := Op.move (Operand.tmp 9), type := 3, pos := "top22.go:46", after := #[], guard := none }) (v := ?_) rfl (by kernel_rfl) (by kernel_rfl) (by kernel_rfl) (fun _ _ _ h => h) (Or.inl ⟨by rfl, ?_⟩) hHeld ?_
      rotate_left
      · intro w hSw
        try dsimp only at hSw
        go_simp
        try with_reducible rfl
      try simp only [Act.put, List.setIfInBounds_toArray, List.set_cons_zero, List.set_cons_succ]
      refine wpAnyH_take (i := 3) (oi := { dst := some 131, op := Op.indexAddr 51 (Operand.tmp 129) (Operand.tmp 130), type := 0, pos := "top22.go:46", after := #[{ on := 1, ground := Ground.data }, { on := 2, ground := Ground.data }], guard := none }) (v := ?_) rfl (by kernel_rfl) (by kernel_rfl) (by kernel_rfl) (fun _ _ _ h => h) (Or.inl ⟨by rfl, ?_⟩) hHeld ?_
      rotate_left
      · intro w hSw
        try dsimp only at hSw
        go_simp
        try with_reducible rfl
      try simp only [Act.put, List.setIfInBounds_toArray, List.set_cons_zero, List.set_cons_succ]
      refine wpAnyH_take (i := 4) (oi := { dst := some 132, op := Op.fieldAddr 67 (Operand.tmp 131) 2, type := 0, pos := "top22.go:46", after := #[{ on := 3, ground := Ground.data }], guard := none }) (v := ?_) rfl (by kernel_rfl) (by kernel_rfl) (by kernel_rfl) (fun _ _ _ h => h) (Or.inl ⟨by rfl, ?_⟩) hHeld ?_
      rotate_left
      · intro w hSw
        try dsimp only at hSw
        go_simp
        try with_reducible rfl
      try simp only [Act.put, List.setIfInBounds_toArray, List.set_cons_zero, List.set_cons_succ]
      refine wpAnyH_take (i := 5) (oi := { dst := some 133, op := Op.load 9 (Operand.tmp 132), type := 9, pos := "top22.go:46", after := #[{ on := 4, ground := Ground.data }], guard := none }) (v := ?_) rfl (by kernel_rfl) (by kernel_rfl) (by kernel_rfl) (fun _ _ _ h => h) (Or.inl ⟨by rfl, ?_⟩) hHeld ?_
      rotate_left
      · intro w hSw
        try dsimp only at hSw
        go_simp
        try with_reducible rfl
      try simp only [Act.put, List.setIfInBounds_toArray, List.set_cons_zero, List.set_cons_succ]
      refine wpAnyH_ready (rs := [6]) (by kernel_rfl) (by simp) ?_
      refine AllReadyH.cons (o := { dst := some 134, op := Op.call { callee := Callee.value (Operand.func 46), args := #[Operand.tmp 128, Operand.tmp 133], argTypes := #[65, 9] }, type := 75, pos := "top22.go:46", after := #[{ on := 0, ground := Ground.data }, { on := 5, ground := Ground.data }], guard := none }) rfl (fun K hK => ?_) (AllReadyH.nil)
      go_simp
      refine (hzo _ hHeld.2.1.b).mono ?_; rintro e w_1 ⟨rfl, hb_1⟩
      try go_wp2_with fail
      refine hK.out _ _ (t20_on hrow hHeld hb_1) (fun hHeld2 => ?_)
      clear hK K hHeld; have hHeld := hHeld2; clear hHeld2
      try simp only [Act.put, List.setIfInBounds_toArray, List.set_cons_zero, List.set_cons_succ]
      refine wpAnyH_take (i := 7) (oi := { dst := some 127, op := Op.move (Operand.tmp 134), type := 75, pos := "top22.go:46", after := #[{ on := 6, ground := Ground.data }], guard := none }) (v := ?_) rfl (by kernel_rfl) (by kernel_rfl) (by kernel_rfl) (fun _ _ _ h => h) (Or.inl ⟨by rfl, ?_⟩) hHeld ?_
      rotate_left
      · intro w hSw
        try dsimp only at hSw
        go_simp
        try with_reducible rfl
      try simp only [Act.put, List.setIfInBounds_toArray, List.set_cons_zero, List.set_cons_succ]
      refine wpAnyH_take (i := 8) (oi := { dst := some 135, op := Op.extract (Operand.tmp 127) 0, type := 3, pos := "top22.go:46", after := #[{ on := 7, ground := Ground.data }], guard := none }) (v := ?_) rfl (by kernel_rfl) (by kernel_rfl) (by kernel_rfl) (fun _ _ _ h => h) (Or.inl ⟨by rfl, ?_⟩) hHeld ?_
      rotate_left
      · intro w hSw
        try dsimp only at hSw
        go_simp
        try with_reducible rfl
      try simp only [Act.put, List.setIfInBounds_toArray, List.set_cons_zero, List.set_cons_succ]
      refine wpAnyH_take (i := 9) (oi := { dst := some 136, op := Op.extract (Operand.tmp 127) 1, type := 25, pos := "top22.go:46", after := #[{ on := 7, ground := Ground.data }, { on := 10, ground := Ground.gcOnly Departure.lateStores }], guard := none }) (v := ?_) rfl (by kernel_rfl) (by kernel_rfl) (by kernel_rfl) (fun _ _ _ h => h) (Or.inl ⟨by rfl, ?_⟩) hHeld ?_
      rotate_left
      · intro w hSw
        try dsimp only at hSw
        go_simp
        try with_reducible rfl
      try simp only [Act.put, List.setIfInBounds_toArray, List.set_cons_zero, List.set_cons_succ]
      refine wpAnyH_take (i := 10) (oi := { dst := some 18, op := Op.assign (Operand.tmp 135), type := 3, pos := "top22.go:46", after := #[{ on := 8, ground := Ground.data }, { on := 6, ground := Ground.chain }, { on := 0, ground := Ground.phase }, { on := 1, ground := Ground.phase }, { on := 2, ground := Ground.phase }, { on := 3, ground := Ground.phase }, { on := 4, ground := Ground.phase }, { on := 5, ground := Ground.phase }, { on := 6, ground := Ground.phase }, { on := 7, ground := Ground.phase }, { on := 8, ground := Ground.phase }, { on := 9, ground := Ground.textOnly Departure.lateStores }], guard := none }) (v := ?_) rfl (by kernel_rfl) (by kernel_rfl) (by kernel_rfl) (fun _ _ _ h => h) (Or.inl ⟨by rfl, ?_⟩) hHeld ?_
      rotate_left
      · intro w hSw
        try dsimp only at hSw
        go_simp
        try with_reducible rfl
      try simp only [Act.put, List.setIfInBounds_toArray, List.set_cons_zero, List.set_cons_succ]
      refine wpAnyH_take (i := 11) (oi := { dst := some 19, op := Op.assign (Operand.tmp 136), type := 25, pos := "top22.go:46", after := #[{ on := 9, ground := Ground.data }, { on := 10, ground := Ground.chain }, { on := 0, ground := Ground.phase }, { on := 1, ground := Ground.phase }, { on := 2, ground := Ground.phase }, { on := 3, ground := Ground.phase }, { on := 4, ground := Ground.phase }, { on := 5, ground := Ground.phase }, { on := 6, ground := Ground.phase }, { on := 7, ground := Ground.phase }, { on := 8, ground := Ground.phase }, { on := 9, ground := Ground.phase }, { on := 10, ground := Ground.phase }], guard := none }) (v := ?_) rfl (by kernel_rfl) (by kernel_rfl) (by kernel_rfl) (fun _ _ _ h => h) (Or.inl ⟨by rfl, ?_⟩) hHeld ?_
      rotate_left
      · intro w hSw
        try dsimp only at hSw
        go_simp
        try with_reducible rfl
      try simp only [Act.put, List.setIfInBounds_toArray, List.set_cons_zero, List.set_cons_succ]
      refine wpAnyH_done (by kernel_rfl) ?_ _
      obtain ⟨xs, i1, -, c3⟩ := hHeld
      clear ZZ hzo hrow
      by_cases hle : ld.e = 0
      · have he1 : (ld.e == 0) = true := by simp [hle]
        obtain ⟨rfl, rfl⟩ := HQ1.out hle
        clear hle HQ1
        go_wp2_with fail
        go_ret
        exact ⟨rfl, i1⟩
      · have he1 : (ld.e == 0) = false := by simp [hle]
        clear hle HQ1
        go_wp2_with fail
        go_ret
        exact ⟨rfl, i1⟩
end Go.Proofs.Ytoiccljmdplfgaa.Nr
