/-
  LINKS: the zone to which a name leads, and the chain of names: walked.
-/
import Derived.Test.YtnoaeejdcdeanaaDoorLk3
import Derived.Deep.QuietTactic
import Derived.WalkLawsBesides
import Derived.Lib.Strings
namespace Go.Proofs.YtnoaeejdcdeanaaDoor.Lk
open Go.ChangeShapes Go.WideShapes Go.ChangeAt Go.RowKit Go.Shelf
open Go.Proofs.YtnoaeejdcdeanaaDoor
open Go.Proofs.YtnoaeejdcdeanaaDoor.Wd
open Go.Proofs.YtnoaeejdcdeanaaDoor.Sl
open Go.Proofs.YtnoaeejdcdeanaaDoor.Sr
set_option linter.unusedVariables false
set_option linter.unusedSimpArgs false
theorem str_eq {a b : ByteArray} (h : a = b) : (a.toList == b.toList) = true := by subst h; simp
theorem str_ne {a b : ByteArray} (h : a ≠ b) : (a.toList == b.toList) = false := by
  rw [beq_eq_false_iff_ne, Lib.toList_data, Lib.toList_data]; exact key_ne h
/-- the finder of a source, asked once -/
theorem ask_any (h : Hd) (S : So) (w w1 : World) (p b1 b2 b3 : Nat) (nm : ByteArray) (hS : SoR w w.heap.size h S) (hz : nm.size ≤ maxLen) (hzn : h.zn ≤ 100000) (hln : h.ln ≤ 100000) (hb : Below w.heap.size w w1) {B : Nat} (hB : w.heap.size ≤ B) (hB1 : B ≤ w1.heap.size) (hF : Fin w1 B p b1 b2 b3 h S 0 (fun _ => none)) :
    Calls Tryd.prog 20 #[.pointer (some ⟨p, 0, none⟩), .string nm] w1 fun e W' => ∃ (cb : List ByteArray) (v : Value), e = .returned (.tuple #[v, fdV (lead (net S) (key nm))]) ∧ W'.ownsRow w1.heap.size 9 1 v cb.length (stV cb) ∧ Chain_ (net S) (key nm) (keys cb) False ∧ (∀ s ∈ cb, s.size ≤ maxLen) ∧ Below w.heap.size w1 W' :=
  (find_any nm B p b1 b2 b3 0 h S (fun _ => none) w1 hF ((hS.below hb).more hB) hB1 (fun _ _ h => by cases h) hz (by omega) hln).mono fun e W' ⟨cb, v, K', n', h1, h2, h3, h4, h5, h6, h7, h8⟩ =>
    ⟨cb, v, h1, h2, h6 fun _ => rfl, h7, below_g h8 (Nat.le_trans hB hB1) (Nat.le_trans hB h3.ge.2.2.2)⟩
set_option maxRecDepth 100000 in
set_option maxHeartbeats 6400000 in
theorem zone_any (h : Hd) (S : So) (nm : ByteArray) (w : World) (hS : SoR w w.heap.size h S) (hz : nm.size ≤ maxLen) (hzn : h.zn ≤ 100000) (hln : h.ln ≤ 100000) :
    Calls Tryd.prog 10 #[h.V, .string nm] w fun e w' => e = .returned (.tuple #[.int .i64 (lead (net S) (key nm)).p, .int .i64 (lead (net S) (key nm)).e]) ∧ Below w.heap.size w w' := by
  have i1 := bal (Below.refl _ w) (.cells h.C 26)
  have x1 := Blk.new w 26 h.C
  have c1 : (w.alloc (.cells h.C 26)).cell? ⟨w.heap.size, 1, none⟩ = some (.slice h.zA h.zn h.zc) := x1.cell 1
  have HSR := Lib.hid hS
  have hzl := hS.z.len
  go_enter Tryd.func10, Tryd.ntmps10
  go_wp2_with fail
  generalize w.alloc (.cells h.C 26) = W0 at *
  go_loopw [13] (fun i wr => ∃ k : Nat, i = .int .i64 k ∧ k ≤ h.zn ∧ (∀ j, j < k → (zn_ S.zs j).nm ≠ nm) ∧ Below w.heap.size w wr ∧ Blk wr w.heap.size 26 h.C) (fun i _ => h.zn - (intOf i).toNat)
  case atStart => exact ⟨0, rfl, Nat.zero_le _, fun j hj => absurd hj (Nat.not_lt_zero _), i1, x1⟩
  case round =>
    clear c1 i1 x1
    obtain ⟨k, rfl, hk, hno, hb, hx⟩ := hrel
    have HNO := Lib.hid hno; clear hno
    by_cases hlt : k < h.zn
    · have hlt' : (k : Int) < (h.zn : Int) := by omega
      have hS2 := hS.below hb
      obtain ⟨ad, e0, hr⟩ : ∃ ad, h.zA = some ad ∧ Row wr w.heap.size (ad.add (k * 2)) (zn_ S.zs k).C := hS2.z.row (fun _ => rfl) Zn.nil hlt
      rw [e0]
      clear e0
      have hat := Lib.hid (getD_at (L := S.zs) Zn.nil (by rw [hzl]; exact hlt))
      have i2 := bal hb (.cells (zn_ S.zs k).C 59)
      have x2 := hx.alloc (.cells (zn_ S.zs k).C 59)
      have z2 := Blk.new wr 59 (zn_ S.zs k).C
      have hnl := Lib.hid (show ∀ j, j < k → (zn_ S.zs j).nm ≠ nm from HNO.out)
      have hzat := fun (e : (zn_ S.zs k).nm = nm) => show lead (net S) (key nm) = ⟨(k : Nat), 0⟩ from lead_z _ (fst_of (l := znames S) (by unfold znames; rw [List.getElem?_map, hat.out, ← e]; rfl) (fun j hj hx => by
        unfold znames at hx
        rw [List.getElem?_map, getD_at Zn.nil (by rw [hzl]; omega)] at hx
        exact hnl.out j hj (key_inj (Option.some.inj hx))))
      have HZ := Lib.hid hzat
      clear hzat hat
      have hstep := Lib.hid (fun (e : (zn_ S.zs k).nm ≠ nm) j (hj : j < k + 1) => (show (zn_ S.zs j).nm ≠ nm by
        by_cases q : j = k
        · rw [q]; exact e
        · exact HNO.out j (by omega)))
      generalize zn_ S.zs k = z at *
      have n2 : (wr.alloc (.cells z.C 59)).cell? ⟨wr.heap.size, 0, none⟩ = some (.string z.nm) := z2.cell 0
      by_cases hq : z.nm = nm
      · have e1 := str_eq hq
        have HQ := Lib.hid hq; clear hq
        go_wp2_with (first | refine wpList_at_g rfl 59 _ rfl w.heap.size _ z.C rfl _ hr Tryd.underlying59 rfl (by kernel_rfl) ?_ | refine wpList_store_new rfl 59 _ _ rfl rfl wr.heap.size z.C rfl rfl _ #[.string ByteArray.empty, .slice none 0 0] wr rfl rfl rfl (by kernel_rfl) (by kernel_rfl) ?_)
        go_ret2
        exact ⟨by rw [HZ.out HQ.out]; rfl, i2⟩
      · have e1 := str_ne hq
        have HQ := Lib.hid hq; clear hq
        go_wp2_with (first | refine wpList_at_g rfl 59 _ rfl w.heap.size _ z.C rfl _ hr Tryd.underlying59 rfl (by kernel_rfl) ?_ | refine wpList_store_new rfl 59 _ _ rfl rfl wr.heap.size z.C rfl rfl _ #[.string ByteArray.empty, .slice none 0 0] wr rfl rfl rfl (by kernel_rfl) (by kernel_rfl) ?_)
        go_roundw
        case rel => exact ⟨k + 1, by go_num, by omega, hstep.out HQ.out, i2, x2⟩
        case measure => simp [intOf]; omega
    · have hlt' : ¬ (k : Int) < (h.zn : Int) := by omega
      have hof := of_any h S wr ((HSR.out.below hb).more hb.size) (by omega) (by omega)
      have hzS : h.V = .agg h.C := rfl
      go_wp2_with (refine wpList_row_g rfl 26 _ rfl _ rfl _ _ _ _ hx Tryd.underlying26 rfl (by kernel_rfl) ?_)
      refine hof.mono ?_; rintro e w2 ⟨p, b1, b2, b3, rfl, hF, hb2⟩
      have hb3 := hb.trans (hb2.mono hb.size)
      go_wp2_with fail
      refine (ask_any h S w w2 p b1 b2 b3 nm HSR.out hz hzn hln hb3 hb.size hb2.size hF).mono ?_; rintro e w3 ⟨cb, v, rfl, ho, hch, hcz, hb4⟩
      have hb5 := hb3.trans hb4
      clear hF ho hch hcz hb4
      obtain ⟨⟨Lp, Le⟩, hL⟩ : ∃ L, L = lead (net S) (key nm) := ⟨_, rfl⟩
      rw [← hL]
      have HL := Lib.hid hL; clear hL
      have hb6 := bal hb5 (.cells #[.int .i64 Lp, .int .i64 Le] 66)
      have y := Blk.new w3 66 #[.int .i64 Lp, .int .i64 Le]
      go_upto_region 8 with (refine wpList_store_new rfl 66 _ _ rfl rfl w3.heap.size #[.int .i64 Lp, .int .i64 Le] rfl rfl _ #[.int .i64 0, .int .i64 0] w3 rfl rfl rfl (by kernel_rfl) (by kernel_rfl) ?_)
      have y0 : (w3.alloc (.cells #[.int .i64 Lp, .int .i64 Le] 66)).cell? ⟨w3.heap.size, 0, none⟩ = some (.int .i64 Lp) := y.cell 0
      have y1 : (w3.alloc (.cells #[.int .i64 Lp, .int .i64 Le] 66)).cell? ⟨w3.heap.size, 1, none⟩ = some (.int .i64 Le) := y.cell 1
      generalize w3.alloc (.cells #[.int .i64 Lp, .int .i64 Le] 66) = W4 at *
      go_quiet (fail)
      go_wp2_with fail
      go_ret2
      exact ⟨by rw [← HL.out]; rfl, bdrewN hb6 _⟩
/-- a slice of texts that reads as a list -/
structure Txs (w : World) (B : Nat) (A : Option Addr) (n : Nat) (l : List ByteArray) : Prop where
  len : l.length = n
  r : Reads w B 1 A n (stV l)
  p : ∀ s ∈ l, s.size ≤ maxLen
theorem Txs.below {w w' : World} {B n : Nat} {A : Option Addr} {l : List ByteArray} (h : Txs w B A n l) (hb : Below B w w') : Txs w' B A n l := ⟨h.len, h.r.below hb, h.p⟩
theorem Txs.more {w : World} {B B' n : Nat} {A : Option Addr} {l : List ByteArray} (h : Txs w B A n l) (hb : B ≤ B') : Txs w B' A n l := ⟨h.len, h.r.more hb, h.p⟩
theorem Txs.at_ {w : World} {B n k : Nat} {A : Option Addr} {l : List ByteArray} (h : Txs w B A n l) (hk : k < n) : ∃ ad, A = some ad ∧ ad.block < B ∧ w.cell? (ad.add k) = some (.string (l.getD k ByteArray.empty)) := by
  obtain ⟨ad, u, e, hb, hu, hc⟩ := h.r.at_ hk
  have hl : k < l.length := by rw [h.len]; exact hk
  rw [List.getElem?_map, getD_at ByteArray.empty hl] at hu
  exact ⟨ad, e, hb, by rw [hc, ← hu]; rfl⟩
theorem Txs.nil {w : World} {B : Nat} : Txs w B none 0 [] := ⟨rfl, Reads.none_, fun s hs => absurd hs List.not_mem_nil⟩
theorem chain_post {S : So} {nm : ByteArray} {w1 W' : World} {cb : List ByteArray} {A : Option Addr} {c : Nat} (ho : W'.ownsRow w1.heap.size 9 1 (.slice A cb.length c) cb.length (stV cb)) (hcz : ∀ s ∈ cb, s.size ≤ maxLen) : Txs W' W'.heap.size A cb.length cb := ⟨rfl, Reads.of_own ho, hcz⟩
set_option maxRecDepth 100000 in
set_option maxHeartbeats 6400000 in
theorem chain_any (h : Hd) (S : So) (nm : ByteArray) (w : World) (hS : SoR w w.heap.size h S) (hz : nm.size ≤ maxLen) (hzn : h.zn ≤ 100000) (hln : h.ln ≤ 100000) :
    Calls Tryd.prog 11 #[h.V, .string nm] w fun e w' => ∃ (A : Option Addr) (c : Nat) (cb : List ByteArray), e = .returned (.slice A cb.length c) ∧ (Txs w' w'.heap.size A cb.length cb ∧ Chain_ (net S) (key nm) (keys cb) False) ∧ Below w.heap.size w w' := by
  have i1 := bal (Below.refl _ w) (.cells h.C 26)
  have hx := Blk.new w 26 h.C
  have hof := of_any h S (w.alloc (.cells h.C 26)) ((hS.below i1).more i1.size) (by omega) (by omega)
  have HSR := Lib.hid hS
  go_enter Tryd.func11, Tryd.ntmps11
  go_wp2_with (refine wpList_row_g rfl 26 _ rfl _ rfl _ _ _ _ hx Tryd.underlying26 rfl (by kernel_rfl) ?_)
  generalize w.alloc (.cells h.C 26) = W0 at *
  refine hof.mono ?_; rintro e w2 ⟨p, b1, b2, b3, rfl, hF, hb2⟩
  have hb3 := i1.trans (hb2.mono i1.size)
  go_wp2_with fail
  refine (ask_any h S w w2 p b1 b2 b3 nm HSR.out hz hzn hln hb3 i1.size hb2.size hF).mono ?_; rintro e w3 ⟨cb, v, rfl, ho, hch, hcz, hb4⟩
  have hb5 := hb3.trans hb4
  obtain ⟨A3, c3, rfl⟩ := own_slice ho
  obtain ⟨⟨Lp, Le⟩, hL⟩ : ∃ L, L = lead (net S) (key nm) := ⟨_, rfl⟩
  rw [← hL]
  clear hL
  have hb6 := bal hb5 (.cells #[.int .i64 Lp, .int .i64 Le] 66)
  have ho6 := ho.alloc (.cells #[.int .i64 Lp, .int .i64 Le] 66)
  have HR := Lib.hid (show ∃ (A : Option Addr) (c : Nat) (cb' : List ByteArray), Ending.returned (.slice A3 cb.length c3) = .returned (.slice A cb'.length c) ∧ (Txs (w3.alloc (.cells #[.int .i64 Lp, .int .i64 Le] 66)) (w3.alloc (.cells #[.int .i64 Lp, .int .i64 Le] 66)).heap.size A cb'.length cb' ∧ Chain_ (net S) (key nm) (keys cb') False) from ⟨A3, c3, cb, rfl, ⟨rfl, Reads.of_own ho6, hcz⟩, hch⟩)
  clear hF ho hch hcz hb4 ho6
  go_wp2_with (refine wpList_store_new rfl 66 _ _ rfl rfl w3.heap.size #[.int .i64 Lp, .int .i64 Le] rfl rfl _ #[.int .i64 0, .int .i64 0] w3 rfl rfl rfl (by kernel_rfl) (by kernel_rfl) ?_)
  go_ret
  obtain ⟨q1, q2, q3, q4, q5⟩ := HR.out
  exact ⟨q1, q2, q3, q4, q5, hb6⟩
end Go.Proofs.YtnoaeejdcdeanaaDoor.Lk
