/-
  LINKS: the zone to which a name leads, and the chain of names: walked.
-/
import Derived.Test.YtoiccljmdplfgaaLk3
import Derived.Deep.QuietTactic
import Derived.WalkLawsBesides
import Derived.Lib.Strings
namespace Go.Proofs.Ytoiccljmdplfgaa.Lk
open Go.ChangeShapes Go.WideShapes Go.ChangeAt Go.RowKit Go.Shelf
open Go.Proofs.Ytoiccljmdplfgaa
open Go.Proofs.Ytoiccljmdplfgaa.Wd
open Go.Proofs.Ytoiccljmdplfgaa.Sl
open Go.Proofs.Ytoiccljmdplfgaa.Sr
set_option linter.unusedVariables false
set_option linter.unusedSimpArgs false
theorem str_eq {a b : ByteArray} (h : a = b) : (a.toList == b.toList) = true := by subst h; simp
theorem str_ne {a b : ByteArray} (h : a ≠ b) : (a.toList == b.toList) = false := by
  rw [beq_eq_false_iff_ne, Lib.toList_data, Lib.toList_data]; exact key_ne h
/-- the finder of a source, asked once -/
theorem ask_any (h : Hd) (S : So) (w w1 : World) (p b1 b2 b3 : Nat) (nm : ByteArray) (hS : SoR w w.heap.size h S) (hz : nm.size ≤ maxLen) (hzn : h.zn ≤ 100000) (hln : h.ln ≤ 100000) (hb : Below w.heap.size w w1) {B : Nat} (hB : w.heap.size ≤ B) (hB1 : B ≤ w1.heap.size) (hF : Fin w1 B p b1 b2 b3 h S 0 (fun _ => none)) :
    Calls Try.prog 78 #[.pointer (some ⟨p, 0, none⟩), .string nm] w1 fun e W' => ∃ (cb : List ByteArray) (v : Value), e = .returned (.tuple #[v, fdV (lead (net S) (key nm))]) ∧ W'.ownsRow w1.heap.size 9 1 v cb.length (stV cb) ∧ Chain_ (net S) (key nm) (keys cb) False ∧ (∀ s ∈ cb, s.size ≤ maxLen) ∧ Below w.heap.size w1 W' :=
  (find_any nm B p b1 b2 b3 0 h S (fun _ => none) w1 hF ((hS.below hb).more hB) hB1 (fun _ _ h => by cases h) hz (by omega) hln).mono fun e W' ⟨cb, v, K', n', h1, h2, h3, h4, h5, h6, h7, h8⟩ =>
    ⟨cb, v, h1, h2, h6 fun _ => rfl, h7, below_g h8 (Nat.le_trans hB hB1) (Nat.le_trans hB h3.ge.2.2.2)⟩
set_option maxRecDepth 100000 in
set_option maxHeartbeats 6400000 in
theorem zone_any (h : Hd) (S : So) (nm : ByteArray) (w : World) (hS : SoR w w.heap.size h S) (hz : nm.size ≤ maxLen) (hzn : h.zn ≤ 100000) (hln : h.ln ≤ 100000) :
    Calls Try.prog 46 #[h.V, .string nm] w fun e w' => e = .returned (.tuple #[.int .i64 (lead (net S) (key nm)).p, .int .i64 (lead (net S) (key nm)).e]) ∧ Below w.heap.size w w' := by
  have i1 := bal (Below.refl _ w) (.cells h.C 65)
  have x1 := Blk.new w 65 h.C
  have c1 : (w.alloc (.cells h.C 65)).cell? ⟨w.heap.size, 1, none⟩ = some (.slice h.zA h.zn h.zc) := x1.cell 1
  have HSR := Lib.hid hS
  have hzl := hS.z.len
  go_enter Try.func46, Try.ntmps46
  go_wp2_with fail
  generalize w.alloc (.cells h.C 65) = W0 at *
  go_loopw [13] (fun i wr => ∃ k : Nat, i = .int .i64 k ∧ k ≤ h.zn ∧ (∀ j, j < k → (zn_ S.zs j).nm ≠ nm) ∧ Below w.heap.size w wr ∧ Blk wr w.heap.size 65 h.C) (fun i _ => h.zn - (intOf i).toNat)
  case atStart => exact ⟨0, rfl, Nat.zero_le _, fun j hj => absurd hj (Nat.not_lt_zero _), i1, x1⟩
  case round =>
    clear c1 i1 x1
    obtain ⟨k, rfl, hk, hno, hb, hx⟩ := hrel
    have HNO := Lib.hid hno; clear hno
    by_cases hlt : k < h.zn
    · have hlt' : (k : Int) < (h.zn : Int) := by omega
      have hS2 := hS.below hb
      obtain ⟨ad, e0, hr⟩ : ∃ ad, h.zA = some ad ∧ Row wr w.heap.size (ad.add (k * 2)) (zn_ S.zs k).C := hS2.z.row (fun _ => rfl) Zn.nil hlt
      rw [e0]
      clear e0
      have hat := Lib.hid (getD_at (L := S.zs) Zn.nil (by rw [hzl]; exact hlt))
      have i2 := bal hb (.cells (zn_ S.zs k).C 118)
      have x2 := hx.alloc (.cells (zn_ S.zs k).C 118)
      have z2 := Blk.new wr 118 (zn_ S.zs k).C
      have hnl := Lib.hid (show ∀ j, j < k → (zn_ S.zs j).nm ≠ nm from HNO.out)
      have hzat := fun (e : (zn_ S.zs k).nm = nm) => show lead (net S) (key nm) = ⟨(k : Nat), 0⟩ from lead_z _ (fst_of (l := znames S) (by unfold znames; rw [List.getElem?_map, hat.out, ← e]; rfl) (fun j hj hx => by
        unfold znames at hx
        rw [List.getElem?_map, getD_at Zn.nil (by rw [hzl]; omega)] at hx
        exact hnl.out j hj (key_inj (Option.some.inj hx))))
      have HZ := Lib.hid hzat
      clear hzat hat
      have hstep := Lib.hid (fun (e : (zn_ S.zs k).nm ≠ nm) j (hj : j < k + 1) => (show (zn_ S.zs j).nm ≠ nm by
        by_cases q : j = k
        · rw [q]; exact e
        · exact HNO.out j (by omega)))
      generalize zn_ S.zs k = z at *
      have n2 : (wr.alloc (.cells z.C 118)).cell? ⟨wr.heap.size, 0, none⟩ = some (.string z.nm) := z2.cell 0
      by_cases hq : z.nm = nm
      · have e1 := str_eq hq
        have HQ := Lib.hid hq; clear hq
        go_wp2_with (first | refine wpList_at_g rfl 118 _ rfl w.heap.size _ z.C rfl _ hr Try.underlying118 rfl (by kernel_rfl) ?_ | refine wpList_store_new rfl 118 _ _ rfl rfl wr.heap.size z.C rfl rfl _ #[.string ByteArray.empty, .slice none 0 0] wr rfl rfl rfl (by kernel_rfl) (by kernel_rfl) ?_)
        go_ret2
        exact ⟨by rw [HZ.out HQ.out]; rfl, i2⟩
      · have e1 := str_ne hq
        have HQ := Lib.hid hq; clear hq
        go_wp2_with (first | refine wpList_at_g rfl 118 _ rfl w.heap.size _ z.C rfl _ hr Try.underlying118 rfl (by kernel_rfl) ?_ | refine wpList_store_new rfl 118 _ _ rfl rfl wr.heap.size z.C rfl rfl _ #[.string ByteArray.empty, .slice none 0 0] wr rfl rfl rfl (by kernel_rfl) (by kernel_rfl) ?_)
        go_roundw
        case rel => exact ⟨k + 1, by go_num, by omega, hstep.out HQ.out, i2, x2⟩
        case measure => simp [intOf]; omega
    · have hlt' : ¬ (k : Int) < (h.zn : Int) := by omega
      have hof := of_any h S wr ((HSR.out.below hb).more hb.size) (by omega) (by omega)
      have hzS : h.V = .agg h.C := rfl
      go_wp2_with (refine wpList_row_g rfl 65 _ rfl _ rfl _ _ _ _ hx Try.underlying65 rfl (by kernel_rfl) ?_)
      refine hof.mono ?_; rintro e w2 ⟨p, b1, b2, b3, rfl, hF, hb2⟩
      have hb3 := hb.trans (hb2.mono hb.size)
      go_wp2_with fail
      refine (ask_any h S w w2 p b1 b2 b3 nm HSR.out hz hzn hln hb3 hb.size hb2.size hF).mono ?_; rintro e w3 ⟨cb, v, rfl, ho, hch, hcz, hb4⟩
      have hb5 := hb3.trans hb4
      clear hF ho hch hcz hb4
      obtain ⟨⟨Lp, Le⟩, hL⟩ : ∃ L, L = lead (net S) (key nm) := ⟨_, rfl⟩
      rw [← hL]
      have HL := Lib.hid hL; clear hL
      have hb6 := bal hb5 (.cells #[.int .i64 Lp, .int .i64 Le] 145)
      have y := Blk.new w3 145 #[.int .i64 Lp, .int .i64 Le]
      go_upto_region 8 with (refine wpList_store_new rfl 145 _ _ rfl rfl w3.heap.size #[.int .i64 Lp, .int .i64 Le] rfl rfl _ #[.int .i64 0, .int .i64 0] w3 rfl rfl rfl (by kernel_rfl) (by kernel_rfl) ?_)
      have y0 : (w3.alloc (.cells #[.int .i64 Lp, .int .i64 Le] 145)).cell? ⟨w3.heap.size, 0, none⟩ = some (.int .i64 Lp) := y.cell 0
      have y1 : (w3.alloc (.cells #[.int .i64 Lp, .int .i64 Le] 145)).cell? ⟨w3.heap.size, 1, none⟩ = some (.int .i64 Le) := y.cell 1
      generalize w3.alloc (.cells #[.int .i64 Lp, .int .i64 Le] 145) = W4 at *
      go_quiet (fail)
      go_wp2_with fail
      go_ret2
      exact ⟨by rw [← HL.out]; rfl, bdrewN hb6 _⟩
end Go.Proofs.Ytoiccljmdplfgaa.Lk
