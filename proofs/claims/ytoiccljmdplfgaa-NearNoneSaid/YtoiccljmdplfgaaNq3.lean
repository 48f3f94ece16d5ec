/-
  near.Zone: the nearest place's zone that leads to one: walked.
-/
import Derived.Test.YtoiccljmdplfgaaNq2
import Derived.Test.YtoiccljmdplfgaaSo6
import Derived.Test.YtoiccljmdplfgaaLk4
namespace Go.Proofs.Ytoiccljmdplfgaa.Nr
open Go.ChangeShapes Go.WideShapes Go.ChangeAt Go.RowKit Go.Shelf
open Go.Proofs.Ytoiccljmdplfgaa
open Go.Proofs.Ytoiccljmdplfgaa.Wd
open Go.Proofs.Ytoiccljmdplfgaa.Pl
open Go.Proofs.Ytoiccljmdplfgaa.Nv
open Go.Proofs.Ytoiccljmdplfgaa.Ar
open Go.Proofs.Ytoiccljmdplfgaa.So (ordF ordF_pm ordF_sd sort_any Pm)
open Go.Proofs.Ytoiccljmdplfgaa.Sr (SoR Hd key net key_inj)
open Go.Proofs.Ytoiccljmdplfgaa.Lk (lead zone_any)
open Go.Proofs.Ytoiccljmdplfgaa.Mp (Smap mput)
set_option linter.unusedVariables false
set_option linter.unusedSimpArgs false
theorem zero_st (w : World) : (zeroValue 141).run Try.prog w = .ok (.agg #[]) w := by kernel_rfl
def okZ (S : Sr.So) (b : Sr.Key) : Prop := (lead (net S) b).e = 0
/-- the zone that is told: of places in an order -/
def ZnQ (S : Sr.So) (L : List Pc) (ord : Nat → Nat) (n : Nat) (b : ByteArray) (E : Int) : Prop :=
  (∃ j, j < n ∧ b = (pc_ L (ord j)).z ∧ okZ S (key b) ∧ (∀ i, i < j → ¬ okZ S (key (pc_ L (ord i)).z)) ∧ E = 0) ∨ ((∀ i, i < n → ¬ okZ S (key (pc_ L (ord i)).z)) ∧ b = ByteArray.empty ∧ E = 3)
def ZnP (S : Sr.So) (L : List Pc) (ord : Nat → Nat) (n : Nat) (w : World) (e : Ending) (w' : World) : Prop :=
  ∃ b E, e = .returned (.tuple #[.string b, .int .i64 E]) ∧ Below w.heap.size w w' ∧ ZnQ S L ord n b E
set_option maxRecDepth 100000 in
set_option maxHeartbeats 6400000 in
theorem nzone_no (A : Option Addr) (n c : Nat) (L : List Pc) (p : P2) (h : Hd) (w : World) (hR : Pcs w w.heap.size A n L) (hm : n ≤ maxLen) (hn : ncE L p ≠ 0) :
    Calls Try.prog 45 #[.slice A n c, h.V, p.V] w fun e w' => e = .returned (.tuple #[.string ByteArray.empty, .int .i64 (ncE L p)]) ∧ Below w.heap.size w w' := by
  have i1 := ((BI.start w).alloc (.cells h.C 65)).alloc (.cells p.A 23)
  have y1 := Blk.new (w.alloc (.cells h.C 65)) 23 p.A
  rw [sz1 _ _ rfl] at y1
  have hck := order_no A n c L p _ ((hR.below i1.b).more i1.b.size) hm hn
  generalize ncE L p = E at *
  have hv : (E != 0) = true := by simp [hn]
  clear hn
  go_enter Try.func45, Try.ntmps45
  go_wp2_with (first | refine wpList_row_g rfl 23 _ rfl _ rfl _ _ _ _ y1 Try.underlying23 rfl (by kernel_rfl) ?_)
  refine hck.mono ?_; rintro e w2 ⟨rfl, hb2⟩
  have i2 := i1.call hb2
  go_wp2_with fail
  go_ret2
  exact ⟨rfl, i2⟩
set_option maxRecDepth 100000 in
set_option maxHeartbeats 6400000 in
theorem nzone_ok (A : Option Addr) (n c : Nat) (L : List Pc) (p : P2) (h : Hd) (S : Sr.So) (w : World) (hR : Pcs w w.heap.size A n L) (hS : SoR w w.heap.size h S) (hm : n ≤ maxLen) (hn : ncE L p = 0) (hn6 : n ≤ 60) (hzn : h.zn ≤ 100000) (hln : h.ln ≤ 100000) :
    Calls Try.prog 45 #[.slice A n c, h.V, p.V] w (ZnP S L (ordF (far_ L p) n) n w) := by
  have hll := hR.len
  have i1 := ((BI.start w).alloc (.cells h.C 65)).alloc (.cells p.A 23)
  have y1 := Blk.new (w.alloc (.cells h.C 65)) 23 p.A
  have x1 := (Blk.new w 65 h.C).alloc (.cells p.A 23)
  rw [sz1 _ _ rfl] at y1
  have hck := order_ok A n c L p _ ((hR.below i1.b).more i1.b.size) hm hn _ (sort_any (far_ L p) n hn6)
  have hpm : ∀ j, j < n → ordF (far_ L p) n j < n := fun j hj => by
    obtain ⟨k, _, k2, k3⟩ := (ordF_pm (far_ L p) n).from_ (Nat.zero_le j) hj
    rw [k3]; exact k2
  generalize ordF (far_ L p) n = ord at *
  clear hn hm
  go_enter Try.func45, Try.ntmps45
  go_wp2_with (first | refine wpList_row_g rfl 23 _ rfl _ rfl _ _ _ _ y1 Try.underlying23 rfl (by kernel_rfl) ?_)
  refine hck.mono ?_; rintro e w2 ⟨g, rfl, hb2, r2⟩
  have i2 := i1.call hb2
  have x2 := x1.below hb2 x1.lt
  clear i1 y1 x1 hb2 hck
  obtain ⟨b3, hb3⟩ : ∃ b, b = w2.heap.size := ⟨_, rfl⟩
  have hm2 := Smap.made w2 Try.prog 9
  have r3 := r2.alloc (.map #[] 0)
  have x3 := x2.alloc (.map #[] 0)
  have i3 := i2.alloc (.map #[] 0)
  have hgb : g < w2.heap.size := r2.lt
  rw [← hb3] at hm2
  have hwb : w.heap.size ≤ b3 := by rw [hb3]; exact i2.b.size
  have hgb3 : g ≠ b3 := by omega
  have hxb : w.heap.size ≠ b3 := by have := x2.lt; omega
  have HB := Lib.hid hb3
  have hmm := @run_makeMap Try.prog
  clear r2 x2 i2 hgb
  go_wp2_with fail
  try rw [← HB.out]
  clear hb3 HB
  go_loopw [30] (fun i wr => ∃ (k : Nat) (m : Sr.Key → Option Value), i = .int .i64 k ∧ k ≤ n ∧ BI w wr ∧ Blk wr w.heap.size 65 h.C ∧ wr.rowIs g 3 n (fun j => .int .i64 (ord j : Int)) ∧ Smap wr Try.prog 9 b3 k m ∧ (∀ x v, m x = some v → ¬ okZ S x ∧ v = .agg #[]) ∧ (∀ j, j < k → ¬ okZ S (key (pc_ L (ord j)).z))) (fun i _ => n - (intOf i).toNat)
  case atStart => exact ⟨0, _, rfl, Nat.zero_le _, i3, x3, r3, hm2, ⟨fun _ _ h => by simp at h, fun j hj => absurd hj (Nat.not_lt_zero _)⟩⟩
  case round =>
    clear i3 x3 r3 hm2
    obtain ⟨k, m, rfl, hk, hb, hx, hr, hm, hmo, hno⟩ := hrel
    have HMO := Lib.hid hmo; have HNO := Lib.hid hno; clear hmo hno
    by_cases hlt : k < n
    · have hlt' : (k : Int) < (n : Int) := by omega
      have hok := hpm k hlt
      have hok' : (ord k : Int) < (n : Int) := by omega
      obtain ⟨ad, rfl, hrow⟩ := (hR.below hb.b).row hok
      have c1 := hr.cell hlt
      have c3 := Sl.row_cj hrow 3 (by decide) (v := .string (pc_ L (ord k)).z) rfl
      have hbz := (hR.p _ (pc_mem (show ord k < L.length by omega))).2
      obtain ⟨b, hbn⟩ : ∃ b, (pc_ L (ord k)).z = b := ⟨_, rfl⟩
      rw [hbn] at c3 hbz
      have HBN := Lib.hid hbn
      have hzo := fun W (hW : Below w.heap.size w W) => zone_any h S b W ((hS.below hW).more hW.size) hbz hzn hln
      have HFIN := Lib.hid (fun (q : okZ S (key b)) => (show ZnQ S L ord n b 0 from .inl ⟨k, hlt, hbn.symm, q, HNO.out, rfl⟩))
      have HSTEP := Lib.hid (fun (q : ¬ okZ S (key b)) j (hj : j < k + 1) => (show ¬ okZ S (key (pc_ L (ord j)).z) by
        by_cases e : j = k
        · rw [e, hbn]; exact q
        · exact HNO.out j (by omega)))
      clear hbn hrow
      obtain ⟨o, ho⟩ : ∃ o, ord k = o := ⟨_, rfl⟩
      rw [ho] at c1 c3 hok hok'
      clear ho
      have i4 := hb.alloc (.cells #[] 141)
      have x4 := hx.alloc (.cells #[] 141)
      have hm4 := hm.alloc (.cells #[] 141)
      have r4 := hr.alloc (.cells #[] 141)
      cases hmb : m (key b) with
      | some v =>
        obtain ⟨hq, rfl⟩ := HMO.out _ _ hmb
        have HS2 := Lib.hid (HSTEP.out hq)
        clear hq HFIN HSTEP
        go_wp2_with (first | (at_lookup; refine Mp.wpList_look_yes _ rfl _ _ 140 rfl 9 141 Try.underlying9 Try.underlying140 _ (zero_st _) b3 k _ rfl hm b rfl hbz _ hmb ?_))
        go_roundw
        case rel => exact ⟨k + 1, m, by go_num, by omega, i4, x4, r4, hm4.mono (Nat.le_succ k), HMO.out, HS2.out⟩
        case measure => simp [intOf]; omega
      | none =>
        have hz4 := hzo _ i4.b
        clear hzo
        obtain ⟨ld, hld⟩ : ∃ ld, lead (net S) (key b) = ld := ⟨_, rfl⟩
        have HLD := Lib.hid hld
        rw [hld] at hz4
        clear hld
        go_wp2_with (first | (at_lookup; refine Mp.wpList_look_no _ rfl _ _ 140 rfl 9 141 Try.underlying9 Try.underlying140 _ (zero_st _) b3 k _ rfl hm b rfl hbz hmb ?_) | refine wpList_row_g rfl 65 _ rfl _ rfl _ _ _ _ x4 Try.underlying65 rfl (by kernel_rfl) ?_)
        refine hz4.mono ?_; rintro e w5 ⟨rfl, hb5⟩
        have i5 := i4.call hb5
        have x5 := x4.below hb5 x4.lt
        have m5 := hm4.below hb5 hm4.lt
        have r5 := row_below r4 hb5
        clear i4 x4 hm4 r4 hb5 hz4 hm hr hb hx
        by_cases hle : ld.e = 0
        · have he1 : (ld.e == 0) = true := by simp [hle]
          have HQ := Lib.hid (HFIN.out (show (lead (net S) (key b)).e = 0 by rw [HLD.out]; exact hle))
          clear HFIN HSTEP hle
          go_wp2_with fail
          go_ret2
          exact ⟨_, _, rfl, i5, HQ.out⟩
        · have he1 : (ld.e == 0) = false := by simp [hle]
          have hq : ¬ okZ S (key b) := fun (q : (lead (net S) (key b)).e = 0) => hle (by rw [← HLD.out]; exact q)
          have HS2 := Lib.hid (HSTEP.out hq)
          have HM2 := Lib.hid (show ∀ x v, mput m (key b) (.agg #[]) x = some v → ¬ okZ S x ∧ v = .agg #[] from fun x v h => by
            by_cases e : x = key b
            · rw [e, Mp.mput_same] at h
              rw [e]; exact ⟨hq, (Option.some.inj h).symm⟩
            · rw [Mp.mput_other e] at h; exact HMO.out x v h)
          clear HFIN HSTEP hq hle
          go_wp2_with (at_mapUpdate; refine Mp.wpList_mput _ rfl _ _ _ 140 rfl 9 141 Try.underlying9 Try.underlying140 b3 k _ rfl m5 (by unfold maxLen; omega) b rfl hbz _ rfl ?_; intro w6 hk6 hg6)
          have i6 : BI w w6 := i5.b.grown hg6 i5.b.size (fun q e => by cases e; exact hwb)
          have x6 := x5.grown hg6 (fun e => hxb (Option.some.inj e))
          have r6 := r5.of_block (hg6.block g r5.lt (fun e => hgb3 (Option.some.inj e)))
          clear i5 x5 m5 r5 hg6
          try go_wp2_with fail
          go_roundw
          case rel => exact ⟨k + 1, _, by go_num, by omega, i6, x6, r6, hk6, HM2.out, HS2.out⟩
          case measure => simp [intOf]; omega
    · obtain rfl : k = n := by omega
      have hlt' : ¬ (k : Int) < (k : Int) := by omega
      have HFIN := Lib.hid (show ZnQ S L ord k ByteArray.empty 3 from .inr ⟨HNO.out, rfl, rfl⟩)
      clear HNO
      go_wp2_with fail
      go_ret2
      exact ⟨_, _, rfl, hb, HFIN.out⟩
end Go.Proofs.Ytoiccljmdplfgaa.Nr
