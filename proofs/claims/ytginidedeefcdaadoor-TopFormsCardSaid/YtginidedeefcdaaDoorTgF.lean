/-
  TopForms, WALKED.
-/
import Derived.Test.YtginidedeefcdaaDoorTgB
import Derived.Test.YtginidedeefcdaaDoorFtE
import Derived.Test.YtginidedeefcdaaDoorFtA
import Derived.Test.YtginidedeefcdaaDoorFtK
import Derived.Test.YtginidedeefcdaaDoorSpE
import Derived.Deep.RegionHeld3
namespace Go.Proofs.YtginidedeefcdaaDoor.Ft
open Go.ChangeShapes Go.WideShapes Go.ChangeAt Go.RowKit
open Go.Proofs.YtginidedeefcdaaDoor
open Go.Proofs.YtginidedeefcdaaDoor.Wd
open Go.Proofs.YtginidedeefcdaaDoor.Rec
open Go.Proofs.YtginidedeefcdaaDoor.Yr
open Go.Proofs.YtginidedeefcdaaDoor.Tb
open Go.Proofs.YtginidedeefcdaaDoor.Civ (Tab Inv)
set_option linter.unusedVariables false
set_option linter.unusedSimpArgs false
/-- what is known of a stamp in a list at a place -/
structure StAt (w : World) (p : Addr) (s : St) : Prop where
  a0 : w.cell? p = some (.int .u16 s.y)
  a1 : w.cell? ⟨p.block, p.off + 1, none⟩ = some (.int .u16 s.m)
  a2 : w.cell? ⟨p.block, p.off + 2, none⟩ = some (.int .u16 s.v)
  a3 : w.cell? ⟨p.block, p.off + 3, none⟩ = some (.int .u16 s.d)
  a4 : w.cell? ⟨p.block, p.off + 4, none⟩ = some (.int .u16 s.h)
  a5 : w.cell? ⟨p.block, p.off + 5, none⟩ = some (.int .u16 s.i)
  a6 : w.cell? ⟨p.block, p.off + 6, none⟩ = some (.int .u16 s.s)
  a7 : w.cell? ⟨p.block, p.off + 7, none⟩ = some (.int .u16 s.u)
/-- a list of stamps that lies in memory -/
def Stamps (w : World) (B : Nat) (A : Option Addr) (n : Nat) (l : List St) : Prop := l.length = n ∧ Reads w B 8 A n (Sh.flatT l)
theorem Stamps.below {w w' : World} {B n : Nat} {A : Option Addr} {l : List St} (h : Stamps w B A n l) (hb : Below B w w') : Stamps w' B A n l := ⟨h.1, h.2.below hb⟩
theorem Stamps.more {w : World} {B B' n : Nat} {A : Option Addr} {l : List St} (h : Stamps w B A n l) (hb : B ≤ B') : Stamps w B' A n l := ⟨h.1, h.2.more hb⟩
theorem Stamps.row {w : World} {B n : Nat} {ad : Addr} {l : List St} (h : Stamps w B (some ad) n l) {k : Nat} (hk : k < n) : Row w B (ad.add (k * 8)) (sA (l.getD k St.nil)) := by
  obtain ⟨hl, hr⟩ := h
  obtain ⟨ad', e, hb, hc⟩ := hr.2 (by omega)
  obtain rfl : ad = ad' := Option.some.inj e
  refine ⟨?_, fun j u hu => ?_⟩
  · rw [Wd.block_of_add]; exact hb
  · have hj : j < 8 := by
      have := (Array.getElem?_eq_some_iff.1 hu).1
      simpa using this
    have hk' : k < l.length := by omega
    rw [Wd.add_of_add, show k * 8 + j = 8 * k + j by omega]
    apply hc
    rw [Sh.flatT_at l k j hk' hj, ← hu]
    congr 1
    rw [List.getD_eq_getElem?_getD, List.getElem?_eq_getElem hk']; rfl
theorem StAt.of {w : World} {B : Nat} {p : Addr} {s : St} (h : Row w B p (sA s)) : StAt w p s := by
  have q := fun j u hu => h.2 j u hu
  exact ⟨by have := q 0 _ rfl; rwa [add_zero] at this, q 1 _ rfl, q 2 _ rfl, q 3 _ rfl, q 4 _ rfl, q 5 _ rfl, q 6 _ rfl, q 7 _ rfl⟩
theorem Stamps.lt {w : World} {B n g : Nat} {l : List St} (h : Stamps w B (some ⟨g, 0, none⟩) n l) {i : Nat} (hi : i < n) : g < B := by
  obtain ⟨ad', e, hb, _⟩ := h.2.2 (by omega)
  cases e; exact hb
/-- what is known of a stamp in a block at a place -/
structure St0 (w : World) (g i : Nat) (s : St) : Prop where
  a0 : w.cell? ⟨g, i, none⟩ = some (.int .u16 s.y)
  a1 : w.cell? ⟨g, i + 1, none⟩ = some (.int .u16 s.m)
  a2 : w.cell? ⟨g, i + 2, none⟩ = some (.int .u16 s.v)
  a3 : w.cell? ⟨g, i + 3, none⟩ = some (.int .u16 s.d)
  a4 : w.cell? ⟨g, i + 4, none⟩ = some (.int .u16 s.h)
  a5 : w.cell? ⟨g, i + 5, none⟩ = some (.int .u16 s.i)
  a6 : w.cell? ⟨g, i + 6, none⟩ = some (.int .u16 s.s)
  a7 : w.cell? ⟨g, i + 7, none⟩ = some (.int .u16 s.u)
theorem St0.of {w : World} {B g i : Nat} {s : St} (h : Row w B ((⟨g, 0, none⟩ : Addr).add i) (sA s)) : St0 w g i s := by
  have e : (⟨g, 0, none⟩ : Addr).add i = ⟨g, i, none⟩ := by unfold Addr.add; split <;> simp_all
  rw [e] at h
  have k := StAt.of h
  exact ⟨k.a0, k.a1, k.a2, k.a3, k.a4, k.a5, k.a6, k.a7⟩
theorem shRec_back {o r : Rc} {Y : Int} (h : Sh.Alike o r Y) (k : r.ok = true) (hp : leS r.p Y = 0) (hq : leS r.q Y = 0) : Sh.shRec o r Y = r := by
  unfold Sh.shRec
  rw [if_pos ⟨by rw [h.ok]; exact k, k⟩]
  have e1 : Sh.likeV o.p r.p Y = r.p := by unfold Sh.likeV; rw [if_pos ⟨by rw [h.lp]; exact hp, hp, h.cp⟩]
  have e2 : Sh.likeV o.q r.q Y = r.q := by unfold Sh.likeV; rw [if_pos ⟨by rw [h.lq]; exact hq, hq, h.cq⟩]
  rw [e1, e2, h.eb, h.ec, h.ed]
theorem form_alike {r : Rc} {x z : St} {Y : Int} (B : r.Bd) (k : r.ok = true) (hp : leS r.p Y = 0) (hq : leS r.q Y = 0) (fx : Sh.Form x r.p Y) (fz : Sh.Form z r.q Y) : Sh.Alike ⟨r.b, r.c, r.d, x, z⟩ r Y := by
  refine ⟨⟨B.b, B.c, B.d, fx.bd, fz.bd⟩, ?_, rfl, rfl, rfl, by rw [hp]; exact fx.le, by rw [hq]; exact fz.le, fx.lc, fz.lc⟩
  rw [k]
  exact Sh.ok_mk (by show x.zero = z.zero; rw [fx.nz, fz.nz]) fx.ck fz.ck (Sh.ok_parts k).2.2.2
set_option maxRecDepth 100000 in
set_option maxHeartbeats 6400000 in
theorem forms_000 (r : Rc) (Y a b : Int) (w : World) (hT : Tab w) 
    (E1 : Int) (h1 : E1 ≠ 0) (hsp : ∀ w, Tab w → Calls Tryd.prog 23 #[r.V, .int .i64 Y] w fun e w' => e = .returned (.tuple #[.slice none 0 0, .int .i64 E1]) ∧ Below w.heap.size w w')
    (E2 : Int) (h2 : E2 ≠ 0) (hfp : ∀ w, Tab w → Calls Tryd.prog 35 #[.agg (sA r.p), .int .i64 Y] w fun e w' => e = .returned (.tuple #[.slice none 0 0, .int .i64 E2]) ∧ Below w.heap.size w w')
    (E3 : Int) (h3 : E3 ≠ 0) (hfq : ∀ w, Tab w → Calls Tryd.prog 35 #[.agg (sA r.q), .int .i64 Y] w fun e w' => e = .returned (.tuple #[.slice none 0 0, .int .i64 E3]) ∧ Below w.heap.size w w')
    :
    Calls Tryd.prog 9 #[r.V, .int .i64 Y, .int .u8 a, .int .u8 b] w fun e w' => e = .returned (.bool true) ∧ Below w.heap.size w w' := by
  have i0 := Inv.start hT
  have eb1 : (E1 != 0) = true := by rw [bne_iff_ne]; exact h1
  have ec1 : (E1 == 0) = false := by rw [beq_eq_false_iff_ne]; exact h1
  have eb2 : (E2 != 0) = true := by rw [bne_iff_ne]; exact h2
  have ec2 : (E2 == 0) = false := by rw [beq_eq_false_iff_ne]; exact h2
  have eb3 : (E3 != 0) = true := by rw [bne_iff_ne]; exact h3
  have ec3 : (E3 == 0) = false := by rw [beq_eq_false_iff_ne]; exact h3
  go_enter Tryd.func9, Tryd.ntmps9
  go_wp2_with fail
  have r_1 := (Wd.Blk.new w 28 (rcA r.b r.c r.d r.p r.q))
  have inv_1 := (i0.alloc (.cells (rcA r.b r.c r.d r.p r.q) 28))
  refine (begins13_any _ inv_1.1).mono ?_; rintro e w_1 ⟨rfl, hb_1⟩
  have rc_1 := r_1.below hb_1 r_1.lt
  have invc_1 := inv_1.call hb_1
  clear r_1 inv_1 hb_1
  go_wp2_with (first | refine wpList_row_g rfl 28 _ rfl _ rfl _ _ _ _ rc_1 Tryd.underlying28 rfl (by kernel_rfl) ?_)
  have r_2 := rc_1
  have inv_2 := invc_1
  refine (hsp _ inv_2.1).mono ?_; rintro e w_2 ⟨rfl, hb_2⟩
  have rc_2 := r_2.below hb_2 r_2.lt
  clear r_2
  have invc_2 := inv_2.call hb_2; clear inv_2 hb_2
  go_wp2_with (first | refine wpList_seg_g rfl 26 _ rfl _ 3 (sA r.p) rfl _ _ _ _ rc_2 Tryd.underlying26 rfl (by kernel_rfl) (by kernel_rfl) ?_)
  have r_3 := rc_2
  have inv_3 := invc_2
  refine (hfp _ inv_3.1).mono ?_; rintro e w_3 ⟨rfl, hb_3⟩
  have rc_3 := r_3.below hb_3 r_3.lt
  clear r_3
  have invc_3 := inv_3.call hb_3; clear inv_3 hb_3
  go_wp2_with (first | refine wpList_seg_g rfl 26 _ rfl _ 11 (sA r.q) rfl _ _ _ _ rc_3 Tryd.underlying26 rfl (by kernel_rfl) (by kernel_rfl) ?_)
  have r_4 := rc_3
  have inv_4 := invc_3
  refine (hfq _ inv_4.1).mono ?_; rintro e w_4 ⟨rfl, hb_4⟩
  have rc_4 := r_4.below hb_4 r_4.lt
  clear r_4
  have invc_4 := inv_4.call hb_4; clear inv_4 hb_4
  go_wp2_with fail
  go_ret
  exact ⟨rfl, invc_4.2⟩
set_option maxRecDepth 100000 in
set_option maxHeartbeats 6400000 in
theorem forms_001 (r : Rc) (Y a b : Int) (w : World) (hT : Tab w) 
    (E1 : Int) (h1 : E1 ≠ 0) (hsp : ∀ w, Tab w → Calls Tryd.prog 23 #[r.V, .int .i64 Y] w fun e w' => e = .returned (.tuple #[.slice none 0 0, .int .i64 E1]) ∧ Below w.heap.size w w')
    (E2 : Int) (h2 : E2 ≠ 0) (hfp : ∀ w, Tab w → Calls Tryd.prog 35 #[.agg (sA r.p), .int .i64 Y] w fun e w' => e = .returned (.tuple #[.slice none 0 0, .int .i64 E2]) ∧ Below w.heap.size w w')
    (hfq : ∀ w, Tab w → Calls Tryd.prog 35 #[.agg (sA r.q), .int .i64 Y] w fun e w' => ∃ g n c, e = .returned (.tuple #[.slice (some ⟨g, 0, none⟩) n c, .int .i64 0]) ∧ Below w.heap.size w w')
    :
    Calls Tryd.prog 9 #[r.V, .int .i64 Y, .int .u8 a, .int .u8 b] w fun e w' => e = .returned (.bool true) ∧ Below w.heap.size w w' := by
  have i0 := Inv.start hT
  have eb1 : (E1 != 0) = true := by rw [bne_iff_ne]; exact h1
  have ec1 : (E1 == 0) = false := by rw [beq_eq_false_iff_ne]; exact h1
  have eb2 : (E2 != 0) = true := by rw [bne_iff_ne]; exact h2
  have ec2 : (E2 == 0) = false := by rw [beq_eq_false_iff_ne]; exact h2
  go_enter Tryd.func9, Tryd.ntmps9
  go_wp2_with fail
  have r_1 := (Wd.Blk.new w 28 (rcA r.b r.c r.d r.p r.q))
  have inv_1 := (i0.alloc (.cells (rcA r.b r.c r.d r.p r.q) 28))
  refine (begins13_any _ inv_1.1).mono ?_; rintro e w_1 ⟨rfl, hb_1⟩
  have rc_1 := r_1.below hb_1 r_1.lt
  have invc_1 := inv_1.call hb_1
  clear r_1 inv_1 hb_1
  go_wp2_with (first | refine wpList_row_g rfl 28 _ rfl _ rfl _ _ _ _ rc_1 Tryd.underlying28 rfl (by kernel_rfl) ?_)
  have r_2 := rc_1
  have inv_2 := invc_1
  refine (hsp _ inv_2.1).mono ?_; rintro e w_2 ⟨rfl, hb_2⟩
  have rc_2 := r_2.below hb_2 r_2.lt
  clear r_2
  have invc_2 := inv_2.call hb_2; clear inv_2 hb_2
  go_wp2_with (first | refine wpList_seg_g rfl 26 _ rfl _ 3 (sA r.p) rfl _ _ _ _ rc_2 Tryd.underlying26 rfl (by kernel_rfl) (by kernel_rfl) ?_)
  have r_3 := rc_2
  have inv_3 := invc_2
  refine (hfp _ inv_3.1).mono ?_; rintro e w_3 ⟨rfl, hb_3⟩
  have rc_3 := r_3.below hb_3 r_3.lt
  clear r_3
  have invc_3 := inv_3.call hb_3; clear inv_3 hb_3
  go_wp2_with (first | refine wpList_seg_g rfl 26 _ rfl _ 11 (sA r.q) rfl _ _ _ _ rc_3 Tryd.underlying26 rfl (by kernel_rfl) (by kernel_rfl) ?_)
  have r_4 := rc_3
  have inv_4 := invc_3
  refine (hfq _ inv_4.1).mono ?_; rintro e w_4 ⟨g_4, n_4, c_4, rfl, hb_4⟩
  have rc_4 := r_4.below hb_4 r_4.lt
  clear r_4
  have invc_4 := inv_4.call hb_4; clear inv_4 hb_4
  go_wp2_with fail
  go_ret
  exact ⟨rfl, invc_4.2⟩
set_option maxRecDepth 100000 in
set_option maxHeartbeats 6400000 in
theorem forms_010 (r : Rc) (Y a b : Int) (w : World) (hT : Tab w) 
    (E1 : Int) (h1 : E1 ≠ 0) (hsp : ∀ w, Tab w → Calls Tryd.prog 23 #[r.V, .int .i64 Y] w fun e w' => e = .returned (.tuple #[.slice none 0 0, .int .i64 E1]) ∧ Below w.heap.size w w')
    (hfp : ∀ w, Tab w → Calls Tryd.prog 35 #[.agg (sA r.p), .int .i64 Y] w fun e w' => ∃ g n c, e = .returned (.tuple #[.slice (some ⟨g, 0, none⟩) n c, .int .i64 0]) ∧ Below w.heap.size w w')
    (E3 : Int) (h3 : E3 ≠ 0) (hfq : ∀ w, Tab w → Calls Tryd.prog 35 #[.agg (sA r.q), .int .i64 Y] w fun e w' => e = .returned (.tuple #[.slice none 0 0, .int .i64 E3]) ∧ Below w.heap.size w w')
    :
    Calls Tryd.prog 9 #[r.V, .int .i64 Y, .int .u8 a, .int .u8 b] w fun e w' => e = .returned (.bool true) ∧ Below w.heap.size w w' := by
  have i0 := Inv.start hT
  have eb1 : (E1 != 0) = true := by rw [bne_iff_ne]; exact h1
  have ec1 : (E1 == 0) = false := by rw [beq_eq_false_iff_ne]; exact h1
  have eb3 : (E3 != 0) = true := by rw [bne_iff_ne]; exact h3
  have ec3 : (E3 == 0) = false := by rw [beq_eq_false_iff_ne]; exact h3
  go_enter Tryd.func9, Tryd.ntmps9
  go_wp2_with fail
  have r_1 := (Wd.Blk.new w 28 (rcA r.b r.c r.d r.p r.q))
  have inv_1 := (i0.alloc (.cells (rcA r.b r.c r.d r.p r.q) 28))
  refine (begins13_any _ inv_1.1).mono ?_; rintro e w_1 ⟨rfl, hb_1⟩
  have rc_1 := r_1.below hb_1 r_1.lt
  have invc_1 := inv_1.call hb_1
  clear r_1 inv_1 hb_1
  go_wp2_with (first | refine wpList_row_g rfl 28 _ rfl _ rfl _ _ _ _ rc_1 Tryd.underlying28 rfl (by kernel_rfl) ?_)
  have r_2 := rc_1
  have inv_2 := invc_1
  refine (hsp _ inv_2.1).mono ?_; rintro e w_2 ⟨rfl, hb_2⟩
  have rc_2 := r_2.below hb_2 r_2.lt
  clear r_2
  have invc_2 := inv_2.call hb_2; clear inv_2 hb_2
  go_wp2_with (first | refine wpList_seg_g rfl 26 _ rfl _ 3 (sA r.p) rfl _ _ _ _ rc_2 Tryd.underlying26 rfl (by kernel_rfl) (by kernel_rfl) ?_)
  have r_3 := rc_2
  have inv_3 := invc_2
  refine (hfp _ inv_3.1).mono ?_; rintro e w_3 ⟨g_3, n_3, c_3, rfl, hb_3⟩
  have rc_3 := r_3.below hb_3 r_3.lt
  clear r_3
  have invc_3 := inv_3.call hb_3; clear inv_3 hb_3
  go_wp2_with (first | refine wpList_seg_g rfl 26 _ rfl _ 11 (sA r.q) rfl _ _ _ _ rc_3 Tryd.underlying26 rfl (by kernel_rfl) (by kernel_rfl) ?_)
  have r_4 := rc_3
  have inv_4 := invc_3
  refine (hfq _ inv_4.1).mono ?_; rintro e w_4 ⟨rfl, hb_4⟩
  have rc_4 := r_4.below hb_4 r_4.lt
  clear r_4
  have invc_4 := inv_4.call hb_4; clear inv_4 hb_4
  go_wp2_with fail
  go_ret
  exact ⟨rfl, invc_4.2⟩
set_option maxRecDepth 100000 in
set_option maxHeartbeats 6400000 in
theorem forms_011 (r : Rc) (Y a b : Int) (w : World) (hT : Tab w) 
    (E1 : Int) (h1 : E1 ≠ 0) (hsp : ∀ w, Tab w → Calls Tryd.prog 23 #[r.V, .int .i64 Y] w fun e w' => e = .returned (.tuple #[.slice none 0 0, .int .i64 E1]) ∧ Below w.heap.size w w')
    (hfp : ∀ w, Tab w → Calls Tryd.prog 35 #[.agg (sA r.p), .int .i64 Y] w fun e w' => ∃ g n c, e = .returned (.tuple #[.slice (some ⟨g, 0, none⟩) n c, .int .i64 0]) ∧ Below w.heap.size w w')
    (hfq : ∀ w, Tab w → Calls Tryd.prog 35 #[.agg (sA r.q), .int .i64 Y] w fun e w' => ∃ g n c, e = .returned (.tuple #[.slice (some ⟨g, 0, none⟩) n c, .int .i64 0]) ∧ Below w.heap.size w w')
    :
    Calls Tryd.prog 9 #[r.V, .int .i64 Y, .int .u8 a, .int .u8 b] w fun e w' => e = .returned (.bool true) ∧ Below w.heap.size w w' := by
  have i0 := Inv.start hT
  have eb1 : (E1 != 0) = true := by rw [bne_iff_ne]; exact h1
  have ec1 : (E1 == 0) = false := by rw [beq_eq_false_iff_ne]; exact h1
  go_enter Tryd.func9, Tryd.ntmps9
  go_wp2_with fail
  have r_1 := (Wd.Blk.new w 28 (rcA r.b r.c r.d r.p r.q))
  have inv_1 := (i0.alloc (.cells (rcA r.b r.c r.d r.p r.q) 28))
  refine (begins13_any _ inv_1.1).mono ?_; rintro e w_1 ⟨rfl, hb_1⟩
  have rc_1 := r_1.below hb_1 r_1.lt
  have invc_1 := inv_1.call hb_1
  clear r_1 inv_1 hb_1
  go_wp2_with (first | refine wpList_row_g rfl 28 _ rfl _ rfl _ _ _ _ rc_1 Tryd.underlying28 rfl (by kernel_rfl) ?_)
  have r_2 := rc_1
  have inv_2 := invc_1
  refine (hsp _ inv_2.1).mono ?_; rintro e w_2 ⟨rfl, hb_2⟩
  have rc_2 := r_2.below hb_2 r_2.lt
  clear r_2
  have invc_2 := inv_2.call hb_2; clear inv_2 hb_2
  go_wp2_with (first | refine wpList_seg_g rfl 26 _ rfl _ 3 (sA r.p) rfl _ _ _ _ rc_2 Tryd.underlying26 rfl (by kernel_rfl) (by kernel_rfl) ?_)
  have r_3 := rc_2
  have inv_3 := invc_2
  refine (hfp _ inv_3.1).mono ?_; rintro e w_3 ⟨g_3, n_3, c_3, rfl, hb_3⟩
  have rc_3 := r_3.below hb_3 r_3.lt
  clear r_3
  have invc_3 := inv_3.call hb_3; clear inv_3 hb_3
  go_wp2_with (first | refine wpList_seg_g rfl 26 _ rfl _ 11 (sA r.q) rfl _ _ _ _ rc_3 Tryd.underlying26 rfl (by kernel_rfl) (by kernel_rfl) ?_)
  have r_4 := rc_3
  have inv_4 := invc_3
  refine (hfq _ inv_4.1).mono ?_; rintro e w_4 ⟨g_4, n_4, c_4, rfl, hb_4⟩
  have rc_4 := r_4.below hb_4 r_4.lt
  clear r_4
  have invc_4 := inv_4.call hb_4; clear inv_4 hb_4
  go_wp2_with fail
  go_ret
  exact ⟨rfl, invc_4.2⟩
set_option maxRecDepth 100000 in
set_option maxHeartbeats 6400000 in
theorem forms_100 (r : Rc) (Y a b : Int) (w : World) (hT : Tab w) 
    (hsp : ∀ w, Tab w → Calls Tryd.prog 23 #[r.V, .int .i64 Y] w fun e w' => ∃ g n c, e = .returned (.tuple #[.slice (some ⟨g, 0, none⟩) n c, .int .i64 0]) ∧ Below w.heap.size w w')
    (E2 : Int) (h2 : E2 ≠ 0) (hfp : ∀ w, Tab w → Calls Tryd.prog 35 #[.agg (sA r.p), .int .i64 Y] w fun e w' => e = .returned (.tuple #[.slice none 0 0, .int .i64 E2]) ∧ Below w.heap.size w w')
    (E3 : Int) (h3 : E3 ≠ 0) (hfq : ∀ w, Tab w → Calls Tryd.prog 35 #[.agg (sA r.q), .int .i64 Y] w fun e w' => e = .returned (.tuple #[.slice none 0 0, .int .i64 E3]) ∧ Below w.heap.size w w')
    :
    Calls Tryd.prog 9 #[r.V, .int .i64 Y, .int .u8 a, .int .u8 b] w fun e w' => e = .returned (.bool true) ∧ Below w.heap.size w w' := by
  have i0 := Inv.start hT
  have eb2 : (E2 != 0) = true := by rw [bne_iff_ne]; exact h2
  have ec2 : (E2 == 0) = false := by rw [beq_eq_false_iff_ne]; exact h2
  have eb3 : (E3 != 0) = true := by rw [bne_iff_ne]; exact h3
  have ec3 : (E3 == 0) = false := by rw [beq_eq_false_iff_ne]; exact h3
  go_enter Tryd.func9, Tryd.ntmps9
  go_wp2_with fail
  have r_1 := (Wd.Blk.new w 28 (rcA r.b r.c r.d r.p r.q))
  have inv_1 := (i0.alloc (.cells (rcA r.b r.c r.d r.p r.q) 28))
  refine (begins13_any _ inv_1.1).mono ?_; rintro e w_1 ⟨rfl, hb_1⟩
  have rc_1 := r_1.below hb_1 r_1.lt
  have invc_1 := inv_1.call hb_1
  clear r_1 inv_1 hb_1
  go_wp2_with (first | refine wpList_row_g rfl 28 _ rfl _ rfl _ _ _ _ rc_1 Tryd.underlying28 rfl (by kernel_rfl) ?_)
  have r_2 := rc_1
  have inv_2 := invc_1
  refine (hsp _ inv_2.1).mono ?_; rintro e w_2 ⟨g_2, n_2, c_2, rfl, hb_2⟩
  have rc_2 := r_2.below hb_2 r_2.lt
  clear r_2
  have invc_2 := inv_2.call hb_2; clear inv_2 hb_2
  go_wp2_with (first | refine wpList_seg_g rfl 26 _ rfl _ 3 (sA r.p) rfl _ _ _ _ rc_2 Tryd.underlying26 rfl (by kernel_rfl) (by kernel_rfl) ?_)
  have r_3 := rc_2
  have inv_3 := invc_2
  refine (hfp _ inv_3.1).mono ?_; rintro e w_3 ⟨rfl, hb_3⟩
  have rc_3 := r_3.below hb_3 r_3.lt
  clear r_3
  have invc_3 := inv_3.call hb_3; clear inv_3 hb_3
  go_wp2_with (first | refine wpList_seg_g rfl 26 _ rfl _ 11 (sA r.q) rfl _ _ _ _ rc_3 Tryd.underlying26 rfl (by kernel_rfl) (by kernel_rfl) ?_)
  have r_4 := rc_3
  have inv_4 := invc_3
  refine (hfq _ inv_4.1).mono ?_; rintro e w_4 ⟨rfl, hb_4⟩
  have rc_4 := r_4.below hb_4 r_4.lt
  clear r_4
  have invc_4 := inv_4.call hb_4; clear inv_4 hb_4
  go_wp2_with fail
  go_ret
  exact ⟨rfl, invc_4.2⟩
set_option maxRecDepth 100000 in
set_option maxHeartbeats 6400000 in
theorem forms_101 (r : Rc) (Y a b : Int) (w : World) (hT : Tab w) 
    (hsp : ∀ w, Tab w → Calls Tryd.prog 23 #[r.V, .int .i64 Y] w fun e w' => ∃ g n c, e = .returned (.tuple #[.slice (some ⟨g, 0, none⟩) n c, .int .i64 0]) ∧ Below w.heap.size w w')
    (E2 : Int) (h2 : E2 ≠ 0) (hfp : ∀ w, Tab w → Calls Tryd.prog 35 #[.agg (sA r.p), .int .i64 Y] w fun e w' => e = .returned (.tuple #[.slice none 0 0, .int .i64 E2]) ∧ Below w.heap.size w w')
    (hfq : ∀ w, Tab w → Calls Tryd.prog 35 #[.agg (sA r.q), .int .i64 Y] w fun e w' => ∃ g n c, e = .returned (.tuple #[.slice (some ⟨g, 0, none⟩) n c, .int .i64 0]) ∧ Below w.heap.size w w')
    :
    Calls Tryd.prog 9 #[r.V, .int .i64 Y, .int .u8 a, .int .u8 b] w fun e w' => e = .returned (.bool true) ∧ Below w.heap.size w w' := by
  have i0 := Inv.start hT
  have eb2 : (E2 != 0) = true := by rw [bne_iff_ne]; exact h2
  have ec2 : (E2 == 0) = false := by rw [beq_eq_false_iff_ne]; exact h2
  go_enter Tryd.func9, Tryd.ntmps9
  go_wp2_with fail
  have r_1 := (Wd.Blk.new w 28 (rcA r.b r.c r.d r.p r.q))
  have inv_1 := (i0.alloc (.cells (rcA r.b r.c r.d r.p r.q) 28))
  refine (begins13_any _ inv_1.1).mono ?_; rintro e w_1 ⟨rfl, hb_1⟩
  have rc_1 := r_1.below hb_1 r_1.lt
  have invc_1 := inv_1.call hb_1
  clear r_1 inv_1 hb_1
  go_wp2_with (first | refine wpList_row_g rfl 28 _ rfl _ rfl _ _ _ _ rc_1 Tryd.underlying28 rfl (by kernel_rfl) ?_)
  have r_2 := rc_1
  have inv_2 := invc_1
  refine (hsp _ inv_2.1).mono ?_; rintro e w_2 ⟨g_2, n_2, c_2, rfl, hb_2⟩
  have rc_2 := r_2.below hb_2 r_2.lt
  clear r_2
  have invc_2 := inv_2.call hb_2; clear inv_2 hb_2
  go_wp2_with (first | refine wpList_seg_g rfl 26 _ rfl _ 3 (sA r.p) rfl _ _ _ _ rc_2 Tryd.underlying26 rfl (by kernel_rfl) (by kernel_rfl) ?_)
  have r_3 := rc_2
  have inv_3 := invc_2
  refine (hfp _ inv_3.1).mono ?_; rintro e w_3 ⟨rfl, hb_3⟩
  have rc_3 := r_3.below hb_3 r_3.lt
  clear r_3
  have invc_3 := inv_3.call hb_3; clear inv_3 hb_3
  go_wp2_with (first | refine wpList_seg_g rfl 26 _ rfl _ 11 (sA r.q) rfl _ _ _ _ rc_3 Tryd.underlying26 rfl (by kernel_rfl) (by kernel_rfl) ?_)
  have r_4 := rc_3
  have inv_4 := invc_3
  refine (hfq _ inv_4.1).mono ?_; rintro e w_4 ⟨g_4, n_4, c_4, rfl, hb_4⟩
  have rc_4 := r_4.below hb_4 r_4.lt
  clear r_4
  have invc_4 := inv_4.call hb_4; clear inv_4 hb_4
  go_wp2_with fail
  go_ret
  exact ⟨rfl, invc_4.2⟩
set_option maxRecDepth 100000 in
set_option maxHeartbeats 6400000 in
theorem forms_110 (r : Rc) (Y a b : Int) (w : World) (hT : Tab w) 
    (hsp : ∀ w, Tab w → Calls Tryd.prog 23 #[r.V, .int .i64 Y] w fun e w' => ∃ g n c, e = .returned (.tuple #[.slice (some ⟨g, 0, none⟩) n c, .int .i64 0]) ∧ Below w.heap.size w w')
    (hfp : ∀ w, Tab w → Calls Tryd.prog 35 #[.agg (sA r.p), .int .i64 Y] w fun e w' => ∃ g n c, e = .returned (.tuple #[.slice (some ⟨g, 0, none⟩) n c, .int .i64 0]) ∧ Below w.heap.size w w')
    (E3 : Int) (h3 : E3 ≠ 0) (hfq : ∀ w, Tab w → Calls Tryd.prog 35 #[.agg (sA r.q), .int .i64 Y] w fun e w' => e = .returned (.tuple #[.slice none 0 0, .int .i64 E3]) ∧ Below w.heap.size w w')
    :
    Calls Tryd.prog 9 #[r.V, .int .i64 Y, .int .u8 a, .int .u8 b] w fun e w' => e = .returned (.bool true) ∧ Below w.heap.size w w' := by
  have i0 := Inv.start hT
  have eb3 : (E3 != 0) = true := by rw [bne_iff_ne]; exact h3
  have ec3 : (E3 == 0) = false := by rw [beq_eq_false_iff_ne]; exact h3
  go_enter Tryd.func9, Tryd.ntmps9
  go_wp2_with fail
  have r_1 := (Wd.Blk.new w 28 (rcA r.b r.c r.d r.p r.q))
  have inv_1 := (i0.alloc (.cells (rcA r.b r.c r.d r.p r.q) 28))
  refine (begins13_any _ inv_1.1).mono ?_; rintro e w_1 ⟨rfl, hb_1⟩
  have rc_1 := r_1.below hb_1 r_1.lt
  have invc_1 := inv_1.call hb_1
  clear r_1 inv_1 hb_1
  go_wp2_with (first | refine wpList_row_g rfl 28 _ rfl _ rfl _ _ _ _ rc_1 Tryd.underlying28 rfl (by kernel_rfl) ?_)
  have r_2 := rc_1
  have inv_2 := invc_1
  refine (hsp _ inv_2.1).mono ?_; rintro e w_2 ⟨g_2, n_2, c_2, rfl, hb_2⟩
  have rc_2 := r_2.below hb_2 r_2.lt
  clear r_2
  have invc_2 := inv_2.call hb_2; clear inv_2 hb_2
  go_wp2_with (first | refine wpList_seg_g rfl 26 _ rfl _ 3 (sA r.p) rfl _ _ _ _ rc_2 Tryd.underlying26 rfl (by kernel_rfl) (by kernel_rfl) ?_)
  have r_3 := rc_2
  have inv_3 := invc_2
  refine (hfp _ inv_3.1).mono ?_; rintro e w_3 ⟨g_3, n_3, c_3, rfl, hb_3⟩
  have rc_3 := r_3.below hb_3 r_3.lt
  clear r_3
  have invc_3 := inv_3.call hb_3; clear inv_3 hb_3
  go_wp2_with (first | refine wpList_seg_g rfl 26 _ rfl _ 11 (sA r.q) rfl _ _ _ _ rc_3 Tryd.underlying26 rfl (by kernel_rfl) (by kernel_rfl) ?_)
  have r_4 := rc_3
  have inv_4 := invc_3
  refine (hfq _ inv_4.1).mono ?_; rintro e w_4 ⟨rfl, hb_4⟩
  have rc_4 := r_4.below hb_4 r_4.lt
  clear r_4
  have invc_4 := inv_4.call hb_4; clear inv_4 hb_4
  go_wp2_with fail
  go_ret
  exact ⟨rfl, invc_4.2⟩
set_option maxRecDepth 100000 in
set_option maxHeartbeats 6400000 in
theorem forms_good (r : Rc) (Y a b : Int) (w : World) (hT : Tab w) (ha : 0 ≤ a ∧ a ≤ 255) (hb : 0 ≤ b ∧ b ≤ 255) (l : List Sp) (P Q : List St) (x z : St) (f : Rc) (i j np nq : Nat)
    (hi : i < np) (hj : j < nq) (hai : a % (np : Int) = (i : Int)) (hbj : b % (nq : Int) = (j : Int)) (hx : P.getD i St.nil = x) (hz : Q.getD j St.nil = z) (hP : P.length = np) (hQ : Q.length = nq) (hl3 : l.length ≤ 3) (hnp3 : np ≤ 3) (hnq3 : nq ≤ 3)
    (hsp : ∀ w, Tab w → Calls Tryd.prog 23 #[r.V, .int .i64 Y] w fun e w' => ∃ g n c, e = .returned (.tuple #[.slice (some ⟨g, 0, none⟩) n c, .int .i64 0]) ∧ l.length = n ∧ n ≤ c ∧ Reads w' w'.heap.size 3 (some ⟨g, 0, none⟩) n (flatS l) ∧ w.heap.size ≤ g ∧ Below w.heap.size w w')
    (hfp : ∀ w, Tab w → Calls Tryd.prog 35 #[.agg (sA r.p), .int .i64 Y] w fun e w' => ∃ g n c, e = .returned (.tuple #[.slice (some ⟨g, 0, none⟩) n c, .int .i64 0]) ∧ n = P.length ∧ n ≤ c ∧ Reads w' w'.heap.size 8 (some ⟨g, 0, none⟩) n (Sh.flatT P) ∧ w.heap.size ≤ g ∧ Below w.heap.size w w')
    (hfq : ∀ w, Tab w → Calls Tryd.prog 35 #[.agg (sA r.q), .int .i64 Y] w fun e w' => ∃ g n c, e = .returned (.tuple #[.slice (some ⟨g, 0, none⟩) n c, .int .i64 0]) ∧ n = Q.length ∧ n ≤ c ∧ Reads w' w'.heap.size 8 (some ⟨g, 0, none⟩) n (Sh.flatT Q) ∧ w.heap.size ≤ g ∧ Below w.heap.size w w')
    (hso : ∀ w, Tab w → Calls Tryd.prog 23 #[.agg (rcA r.b r.c r.d x z), .int .i64 Y] w fun e w' => ∃ g n c, e = .returned (.tuple #[.slice (some ⟨g, 0, none⟩) n c, .int .i64 0]) ∧ l.length = n ∧ n ≤ c ∧ Reads w' w'.heap.size 3 (some ⟨g, 0, none⟩) n (flatS l) ∧ w.heap.size ≤ g ∧ Below w.heap.size w w')
    (hfy : ∀ w A n c, Tab w → Spans w w.heap.size A n l → n ≤ 3 → n ≤ c → Calls Tryd.prog 13 #[.slice A n c, .int .i64 Y] w fun e w' => e = .returned (.tuple #[.agg (rcA f.b f.c f.d f.p f.q), .int .u8 0, .int .i64 0]) ∧ Below w.heap.size w w')
    (hrc : ∀ w, Tab w → Calls Tryd.prog 36 #[.agg (rcA r.b r.c r.d x z), r.V, .int .i64 Y] w fun e w' => e = .returned r.V ∧ Below w.heap.size w w') :
    Calls Tryd.prog 9 #[r.V, .int .i64 Y, .int .u8 a, .int .u8 b] w fun e w' => e = .returned (.bool true) ∧ Below w.heap.size w w' := by
  have i0 := Inv.start hT
  have hq1 : ∀ w, (binOp .eql 28 (.agg (rcA f.b f.c f.d f.p f.q)) (.agg (rcA f.b f.c f.d f.p f.q))).run Tryd.prog w = .ok (.bool true) w := fun w => (eq_rc f.b f.c f.d f.b f.c f.d f.p f.q f.p f.q w).trans (by rw [show eqR f.b f.c f.d f.p f.q f.b f.c f.d f.p f.q = true from eqR_iff.2 ⟨rfl, rfl, rfl, rfl, rfl⟩])
  have hq2 : ∀ w, (binOp .eql 28 (.agg (rcA r.b r.c r.d r.p r.q)) (.agg (rcA r.b r.c r.d r.p r.q))).run Tryd.prog w = .ok (.bool true) w := fun w => (eq_rc r.b r.c r.d r.b r.c r.d r.p r.q r.p r.q w).trans (by rw [show eqR r.b r.c r.d r.p r.q r.b r.c r.d r.p r.q = true from eqR_iff.2 ⟨rfl, rfl, rfl, rfl, rfl⟩])
  have m1 : a.tmod (np : Int) = (i : Int) := by rw [Int.tmod_eq_emod_of_nonneg ha.1]; exact hai
  have m2 : b.tmod (nq : Int) = (j : Int) := by rw [Int.tmod_eq_emod_of_nonneg hb.1]; exact hbj
  have n1 : ((np : Int) == 0) = false := by rw [beq_eq_false_iff_ne]; omega
  have n2 : ((nq : Int) == 0) = false := by rw [beq_eq_false_iff_ne]; omega
  have n3 : (np : Int) ≠ 0 := by omega
  have n4 : (nq : Int) ≠ 0 := by omega
  have w1 : IntKind.i64.wrap a = a := by simp [IntKind.wrap, IntKind.bits, IntKind.signed]; omega
  have w2 : IntKind.i64.wrap b = b := by simp [IntKind.wrap, IntKind.bits, IntKind.signed]; omega
  have j1 : (i : Int) < (np : Int) := by omega
  have z1 : ¬ np = 0 := by omega
  have z2 : ¬ nq = 0 := by omega
  clear hnp3 hnq3
  have j2 : (j : Int) < (nq : Int) := by omega
  have HX := Lib.hid hx; have HZ := Lib.hid hz; have HP := Lib.hid hP; have HQ := Lib.hid hQ; have HL := Lib.hid hl3
  clear hx hz hP hQ hl3 hai hbj
  go_enter Tryd.func9, Tryd.ntmps9
  go_wp2_with fail
  have r_1 := (Wd.Blk.new w 28 (rcA r.b r.c r.d r.p r.q))
  have inv_1 := (i0.alloc (.cells (rcA r.b r.c r.d r.p r.q) 28))
  refine (begins13_any _ inv_1.1).mono ?_; rintro e w_1 ⟨rfl, hb_1⟩
  have rc_1 := r_1.below hb_1 r_1.lt
  have invc_1 := inv_1.call hb_1
  clear r_1 inv_1 hb_1
  go_wp2_with (first | refine wpList_row_g rfl 28 _ rfl _ rfl _ _ _ _ rc_1 Tryd.underlying28 rfl (by kernel_rfl) ?_)
  have r_2 := rc_1
  have inv_2 := invc_1
  refine (hsp _ inv_2.1).mono ?_; rintro e w_2 ⟨gl, nl, cl, rfl, hnl, hcl, hrd, hgl, hb_2⟩
  have rc_2 := r_2.below hb_2 r_2.lt
  clear r_2
  have invc_2 := inv_2.call hb_2; clear inv_2
  have L_2 : Spans w_2 w_2.heap.size (some ⟨gl, 0, none⟩) nl l := ⟨hnl, hrd⟩; have hn3 : nl ≤ 3 := by have := HL.out; omega
  have HNL := Lib.hid hnl; clear hnl hrd hgl
  clear hb_2
  go_wp2_with (first | refine wpList_seg_g rfl 26 _ rfl _ 3 (sA r.p) rfl _ _ _ _ rc_2 Tryd.underlying26 rfl (by kernel_rfl) (by kernel_rfl) ?_)
  have r_3 := rc_2
  have inv_3 := invc_2
  refine (hfp _ inv_3.1).mono ?_; rintro e w_3 ⟨gp, np', cp, rfl, hnp, hcp, hrd, hgp, hb_3⟩
  have rc_3 := r_3.below hb_3 r_3.lt
  clear r_3
  have Lc_3 := (L_2.below hb_3).more hb_3.size
  clear L_2
  have invc_3 := inv_3.call hb_3; clear inv_3
  obtain rfl : np' = np := hnp.trans HP.out
  have P_3 : Stamps w_3 w_3.heap.size (some ⟨gp, 0, none⟩) np' P := ⟨hnp.symm, hrd⟩
  clear hnp hrd hgp hcp
  clear hb_3
  go_wp2_with (first | refine wpList_seg_g rfl 26 _ rfl _ 11 (sA r.q) rfl _ _ _ _ rc_3 Tryd.underlying26 rfl (by kernel_rfl) (by kernel_rfl) ?_)
  have r_4 := rc_3
  have inv_4 := invc_3
  refine (hfq _ inv_4.1).mono ?_; rintro e w_4 ⟨gq, nq', cq, rfl, hnq, hcq, hrd, hgq, hb_4⟩
  have rc_4 := r_4.below hb_4 r_4.lt
  clear r_4
  have Lc_4 := (Lc_3.below hb_4).more hb_4.size
  clear Lc_3
  have Pc_4 := (P_3.below hb_4).more hb_4.size
  clear P_3
  have invc_4 := inv_4.call hb_4; clear inv_4
  obtain rfl : nq' = nq := hnq.trans HQ.out
  have Q_4 : Stamps w_4 w_4.heap.size (some ⟨gq, 0, none⟩) nq' Q := ⟨hnq.symm, hrd⟩
  clear hnq hrd hgq hcq
  clear hb_4
  have rlt := rc_4.lt
  have La := Lc_4.below (Below.alloc (Below.refl (w_4).heap.size (w_4)) (Nat.le_refl _) (.cells (rcA r.b r.c r.d r.p r.q) 28))
  have Pa := Pc_4.below (Below.alloc (Below.refl (w_4).heap.size (w_4)) (Nat.le_refl _) (.cells (rcA r.b r.c r.d r.p r.q) 28))
  have Qa := Q_4.below (Below.alloc (Below.refl (w_4).heap.size (w_4)) (Nat.le_refl _) (.cells (rcA r.b r.c r.d r.p r.q) 28))
  have gpl := Pa.lt (i := i) hi; have gql := Qa.lt (i := j) hj
  go_upto_region 9 with (first | refine wpList_row_g rfl 28 _ rfl _ rfl _ _ _ _ rc_4 Tryd.underlying28 rfl (by kernel_rfl) ?_ | refine wpList_store_new rfl 28 _ _ rfl rfl w_4.heap.size (rcA r.b r.c r.d r.p r.q) rfl rfl _ #[.int .i32 0, .int .i32 0, .int .i32 0, .int .u16 0, .int .u16 0, .int .u16 0, .int .u16 0, .int .u16 0, .int .u16 0, .int .u16 0, .int .u16 0, .int .u16 0, .int .u16 0, .int .u16 0, .int .u16 0, .int .u16 0, .int .u16 0, .int .u16 0, .int .u16 0] w_4 rfl rfl rfl (by kernel_rfl) (by kernel_rfl) ?_)
  have r_5 := (rc_4.alloc (.cells (rcA r.b r.c r.d r.p r.q) 28))
  have o_5 := (Wd.Blk.new w_4 28 (rcA r.b r.c r.d r.p r.q))
  have inv_5 := (invc_4.alloc (.cells (rcA r.b r.c r.d r.p r.q) 28))
  have rp := Pa.row hi; have rq := Qa.row hj
  rw [HX.out] at rp; rw [HZ.out] at rq
  have ro := o_5; have rr := r_5; have rl := La; have iv := inv_5
  clear o_5 r_5 HX HZ HP HQ
  generalize hWW : (w_4.alloc (.cells (rcA r.b r.c r.d r.p r.q) 28)) = WW at *
  generalize hgo : w_4.heap.size = go at *
  clear hWW
  have gpn : gp ≠ go := by omega
  have gqn : gq ≠ go := by omega
  have gpm : go ≠ gp := by omega
  have gqm : go ≠ gq := by omega
  go_cut [93] (fun _ wx => Inv w wx ∧ Blk wx go 28 (rcA r.b r.c r.d x z) ∧ Blk wx w.heap.size 28 (rcA r.b r.c r.d r.p r.q) ∧ Spans wx wx.heap.size (some ⟨gl, 0, none⟩) nl l)
  case first =>
    obtain ⟨p0, p1, p2, p3, p4, p5, p6, p7⟩ := St0.of rp
    obtain ⟨q0, q1, q2, q3, q4, q5, q6, q7⟩ := St0.of rq
    have xo : Blk WW go 28 #[.int .i32 r.b, .int .i32 r.c, .int .i32 r.d, .int .u16 r.p.y, .int .u16 r.p.m, .int .u16 r.p.v, .int .u16 r.p.d, .int .u16 r.p.h, .int .u16 r.p.i, .int .u16 r.p.s, .int .u16 r.p.u, .int .u16 r.q.y, .int .u16 r.q.m, .int .u16 r.q.v, .int .u16 r.q.d, .int .u16 r.q.h, .int .u16 r.q.i, .int .u16 r.q.s, .int .u16 r.q.u] := ro
    have f0 := ro.frozen 3; have c0 : WW.cell? ⟨go, 3, none⟩ = some (.int .u16 r.p.y) := xo.cell 3
    have f1 := ro.frozen 4; have c1 : WW.cell? ⟨go, 4, none⟩ = some (.int .u16 r.p.m) := xo.cell 4
    have f2 := ro.frozen 5; have c2 : WW.cell? ⟨go, 5, none⟩ = some (.int .u16 r.p.v) := xo.cell 5
    have f3 := ro.frozen 6; have c3 : WW.cell? ⟨go, 6, none⟩ = some (.int .u16 r.p.d) := xo.cell 6
    have f4 := ro.frozen 7; have c4 : WW.cell? ⟨go, 7, none⟩ = some (.int .u16 r.p.h) := xo.cell 7
    have f5 := ro.frozen 8; have c5 : WW.cell? ⟨go, 8, none⟩ = some (.int .u16 r.p.i) := xo.cell 8
    have f6 := ro.frozen 9; have c6 : WW.cell? ⟨go, 9, none⟩ = some (.int .u16 r.p.s) := xo.cell 9
    have f7 := ro.frozen 10; have c7 : WW.cell? ⟨go, 10, none⟩ = some (.int .u16 r.p.u) := xo.cell 10
    have f8 := ro.frozen 11; have c8 : WW.cell? ⟨go, 11, none⟩ = some (.int .u16 r.q.y) := xo.cell 11
    have f9 := ro.frozen 12; have c9 : WW.cell? ⟨go, 12, none⟩ = some (.int .u16 r.q.m) := xo.cell 12
    have f10 := ro.frozen 13; have c10 : WW.cell? ⟨go, 13, none⟩ = some (.int .u16 r.q.v) := xo.cell 13
    have f11 := ro.frozen 14; have c11 : WW.cell? ⟨go, 14, none⟩ = some (.int .u16 r.q.d) := xo.cell 14
    have f12 := ro.frozen 15; have c12 : WW.cell? ⟨go, 15, none⟩ = some (.int .u16 r.q.h) := xo.cell 15
    have f13 := ro.frozen 16; have c13 : WW.cell? ⟨go, 16, none⟩ = some (.int .u16 r.q.i) := xo.cell 16
    have f14 := ro.frozen 17; have c14 : WW.cell? ⟨go, 17, none⟩ = some (.int .u16 r.q.s) := xo.cell 17
    have f15 := ro.frozen 18; have c15 : WW.cell? ⟨go, 18, none⟩ = some (.int .u16 r.q.u) := xo.cell 18
    have XO := Lib.hid xo; have RO := Lib.hid ro; have RR := Lib.hid rr; have RL := Lib.hid rl; have IV := Lib.hid iv; have RLT := Lib.hid rlt; clear xo ro rr rl iv rlt rp rq i0
    go_region_held3 (fun w' => w'.cell? ⟨gp, i * 8, none⟩ = some (.int .u16 x.y) ∧ w'.cell? ⟨gp, i * 8 + 1, none⟩ = some (.int .u16 x.m) ∧ w'.cell? ⟨gp, i * 8 + 2, none⟩ = some (.int .u16 x.v) ∧ w'.cell? ⟨gp, i * 8 + 3, none⟩ = some (.int .u16 x.d) ∧ w'.cell? ⟨gp, i * 8 + 4, none⟩ = some (.int .u16 x.h) ∧ w'.cell? ⟨gp, i * 8 + 5, none⟩ = some (.int .u16 x.i) ∧ w'.cell? ⟨gp, i * 8 + 6, none⟩ = some (.int .u16 x.s) ∧ w'.cell? ⟨gp, i * 8 + 7, none⟩ = some (.int .u16 x.u) ∧ w'.cell? ⟨gq, j * 8, none⟩ = some (.int .u16 z.y) ∧ w'.cell? ⟨gq, j * 8 + 1, none⟩ = some (.int .u16 z.m) ∧ w'.cell? ⟨gq, j * 8 + 2, none⟩ = some (.int .u16 z.v) ∧ w'.cell? ⟨gq, j * 8 + 3, none⟩ = some (.int .u16 z.d) ∧ w'.cell? ⟨gq, j * 8 + 4, none⟩ = some (.int .u16 z.h) ∧ w'.cell? ⟨gq, j * 8 + 5, none⟩ = some (.int .u16 z.i) ∧ w'.cell? ⟨gq, j * 8 + 6, none⟩ = some (.int .u16 z.s) ∧ w'.cell? ⟨gq, j * 8 + 7, none⟩ = some (.int .u16 z.u)) (go_keep) (fail)
    all_goals
      go_wp2_with fail
      go_meet
      clear p0 p1 p2 p3 p4 p5 p6 p7 q0 q1 q2 q3 q4 q5 q6 q7
      have xo := XO.out; have ro := RO.out; have rr := RR.out; have rl := RL.out; have iv := IV.out; have rlt := RLT.out
      have zo := ((((((((((((((((xo.set_ 3 (.int .u16 x.y)).set_ 4 (.int .u16 x.m)).set_ 5 (.int .u16 x.v)).set_ 6 (.int .u16 x.d)).set_ 7 (.int .u16 x.h)).set_ 8 (.int .u16 x.i)).set_ 9 (.int .u16 x.s)).set_ 10 (.int .u16 x.u)).set_ 11 (.int .u16 z.y)).set_ 12 (.int .u16 z.m)).set_ 13 (.int .u16 z.v)).set_ 14 (.int .u16 z.d)).set_ 15 (.int .u16 z.h)).set_ 16 (.int .u16 z.i)).set_ 17 (.int .u16 z.s)).set_ 18 (.int .u16 z.u))
      simp only [List.setIfInBounds_toArray, List.set_cons_zero, List.set_cons_succ] at zo
      have rne : w.heap.size ≠ go := by have := rlt; omega
      have zr := ((((((((((((((((rr.far (p := ⟨go, 3, none⟩) rne (.int .u16 x.y)).far (p := ⟨go, 4, none⟩) rne (.int .u16 x.m)).far (p := ⟨go, 5, none⟩) rne (.int .u16 x.v)).far (p := ⟨go, 6, none⟩) rne (.int .u16 x.d)).far (p := ⟨go, 7, none⟩) rne (.int .u16 x.h)).far (p := ⟨go, 8, none⟩) rne (.int .u16 x.i)).far (p := ⟨go, 9, none⟩) rne (.int .u16 x.s)).far (p := ⟨go, 10, none⟩) rne (.int .u16 x.u)).far (p := ⟨go, 11, none⟩) rne (.int .u16 z.y)).far (p := ⟨go, 12, none⟩) rne (.int .u16 z.m)).far (p := ⟨go, 13, none⟩) rne (.int .u16 z.v)).far (p := ⟨go, 14, none⟩) rne (.int .u16 z.d)).far (p := ⟨go, 15, none⟩) rne (.int .u16 z.h)).far (p := ⟨go, 16, none⟩) rne (.int .u16 z.i)).far (p := ⟨go, 17, none⟩) rne (.int .u16 z.s)).far (p := ⟨go, 18, none⟩) rne (.int .u16 z.u))
      have wle : w.heap.size ≤ go := by have := rlt; omega
      have zi := ((((((((((((((((iv.2.setCell (p := ⟨go, 3, none⟩) wle (.int .u16 x.y)).setCell (p := ⟨go, 4, none⟩) wle (.int .u16 x.m)).setCell (p := ⟨go, 5, none⟩) wle (.int .u16 x.v)).setCell (p := ⟨go, 6, none⟩) wle (.int .u16 x.d)).setCell (p := ⟨go, 7, none⟩) wle (.int .u16 x.h)).setCell (p := ⟨go, 8, none⟩) wle (.int .u16 x.i)).setCell (p := ⟨go, 9, none⟩) wle (.int .u16 x.s)).setCell (p := ⟨go, 10, none⟩) wle (.int .u16 x.u)).setCell (p := ⟨go, 11, none⟩) wle (.int .u16 z.y)).setCell (p := ⟨go, 12, none⟩) wle (.int .u16 z.m)).setCell (p := ⟨go, 13, none⟩) wle (.int .u16 z.v)).setCell (p := ⟨go, 14, none⟩) wle (.int .u16 z.d)).setCell (p := ⟨go, 15, none⟩) wle (.int .u16 z.h)).setCell (p := ⟨go, 16, none⟩) wle (.int .u16 z.i)).setCell (p := ⟨go, 17, none⟩) wle (.int .u16 z.s)).setCell (p := ⟨go, 18, none⟩) wle (.int .u16 z.u))
      have zb := Below.drew (((((((((((((((((Below.refl go WW).setCell (p := ⟨go, 3, none⟩) (Nat.le_refl _) (.int .u16 x.y)).setCell (p := ⟨go, 4, none⟩) (Nat.le_refl _) (.int .u16 x.m)).setCell (p := ⟨go, 5, none⟩) (Nat.le_refl _) (.int .u16 x.v)).setCell (p := ⟨go, 6, none⟩) (Nat.le_refl _) (.int .u16 x.d)).setCell (p := ⟨go, 7, none⟩) (Nat.le_refl _) (.int .u16 x.h)).setCell (p := ⟨go, 8, none⟩) (Nat.le_refl _) (.int .u16 x.i)).setCell (p := ⟨go, 9, none⟩) (Nat.le_refl _) (.int .u16 x.s)).setCell (p := ⟨go, 10, none⟩) (Nat.le_refl _) (.int .u16 x.u)).setCell (p := ⟨go, 11, none⟩) (Nat.le_refl _) (.int .u16 z.y)).setCell (p := ⟨go, 12, none⟩) (Nat.le_refl _) (.int .u16 z.m)).setCell (p := ⟨go, 13, none⟩) (Nat.le_refl _) (.int .u16 z.v)).setCell (p := ⟨go, 14, none⟩) (Nat.le_refl _) (.int .u16 z.d)).setCell (p := ⟨go, 15, none⟩) (Nat.le_refl _) (.int .u16 z.h)).setCell (p := ⟨go, 16, none⟩) (Nat.le_refl _) (.int .u16 z.i)).setCell (p := ⟨go, 17, none⟩) (Nat.le_refl _) (.int .u16 z.s)).setCell (p := ⟨go, 18, none⟩) (Nat.le_refl _) (.int .u16 z.u))
      have gsz : go ≤ WW.heap.size := by have := ro.lt; omega
      have zs := (rl.below zb).more (Nat.le_trans gsz zb.size)
      exact ⟨inv_of hT zi.drew, zo.drew, zr.drew, zs⟩
  case rest =>
    clear iv rr ro rl rp rq i0 z1 z2 gpl gql rlt gpn gqn gpm gqm j1 j2 n1 n2 n3 n4 m1 m2 w1 w2 ha hb hi hj hfp hfq hsp
    obtain ⟨ic, oc, rc, lc⟩ := hcut
    go_wp2_with (first | refine wpList_row_g rfl 28 _ rfl _ rfl _ _ _ _ oc Tryd.underlying28 rfl (by kernel_rfl) ?_)
    have o_6 := oc
    have r_6 := rc
    have inv_6 := ic
    refine (hso _ inv_6.1).mono ?_; rintro e w_6 ⟨gm, nm, cm, rfl, hnm, hcm, hrd, hgm, hb_6⟩
    have oc_6 := o_6.below hb_6 o_6.lt
    clear o_6
    have rc_6 := r_6.below hb_6 r_6.lt
    clear r_6
    have Lc_6 := (lc.below hb_6).more hb_6.size
    clear lc
    have invc_6 := inv_6.call hb_6; clear inv_6
    have M_6 : Spans w_6 w_6.heap.size (some ⟨gm, 0, none⟩) nm l := ⟨hnm, hrd⟩; have hm3 : nm ≤ 3 := by have := HL.out; omega
    have HNM := Lib.hid hnm; clear hnm hrd hgm
    clear hb_6
    go_wp2_with fail
    have o_7 := oc_6
    have r_7 := rc_6
    have inv_7 := invc_6
    refine (hfy _ _ _ _ inv_7.1 Lc_6 hn3 hcl).mono ?_; rintro e w_7 ⟨rfl, hb_7⟩
    have oc_7 := o_7.below hb_7 o_7.lt
    clear o_7
    have rc_7 := r_7.below hb_7 r_7.lt
    clear r_7
    have Lc_7 := (Lc_6.below hb_7).more hb_7.size
    clear Lc_6
    have Mc_7 := (M_6.below hb_7).more hb_7.size
    clear M_6
    have invc_7 := inv_7.call hb_7; clear inv_7
    clear hb_7
    have Lb_7 := (Lc_7.below (Below.alloc (Below.refl (w_7).heap.size (w_7)) (Nat.le_refl _) (.cells (rcA f.b f.c f.d f.p f.q) 28))).more (Below.alloc (Below.refl (w_7).heap.size (w_7)) (Nat.le_refl _) (.cells (rcA f.b f.c f.d f.p f.q) 28)).size; clear Lc_7
    have Mb_7 := (Mc_7.below (Below.alloc (Below.refl (w_7).heap.size (w_7)) (Nat.le_refl _) (.cells (rcA f.b f.c f.d f.p f.q) 28))).more (Below.alloc (Below.refl (w_7).heap.size (w_7)) (Nat.le_refl _) (.cells (rcA f.b f.c f.d f.p f.q) 28)).size; clear Mc_7
    go_wp2_with (first | refine wpList_store_new rfl 28 _ _ rfl rfl w_7.heap.size (rcA f.b f.c f.d f.p f.q) rfl rfl _ #[.int .i32 0, .int .i32 0, .int .i32 0, .int .u16 0, .int .u16 0, .int .u16 0, .int .u16 0, .int .u16 0, .int .u16 0, .int .u16 0, .int .u16 0, .int .u16 0, .int .u16 0, .int .u16 0, .int .u16 0, .int .u16 0, .int .u16 0, .int .u16 0, .int .u16 0] w_7 rfl rfl rfl (by kernel_rfl) (by kernel_rfl) ?_)
    have o_8 := (oc_7.alloc (.cells (rcA f.b f.c f.d f.p f.q) 28))
    have r_8 := (rc_7.alloc (.cells (rcA f.b f.c f.d f.p f.q) 28))
    have x_8 := (Wd.Blk.new w_7 28 (rcA f.b f.c f.d f.p f.q))
    have inv_8 := (invc_7.alloc (.cells (rcA f.b f.c f.d f.p f.q) 28))
    refine (hfy _ _ _ _ inv_8.1 Mb_7 hm3 hcm).mono ?_; rintro e w_8 ⟨rfl, hb_8⟩
    have oc_8 := o_8.below hb_8 o_8.lt
    clear o_8
    have rc_8 := r_8.below hb_8 r_8.lt
    clear r_8
    have xc_8 := x_8.below hb_8 x_8.lt
    clear x_8
    have Lc_8 := (Lb_7.below hb_8).more hb_8.size
    clear Lb_7
    have Mc_8 := (Mb_7.below hb_8).more hb_8.size
    clear Mb_7
    have invc_8 := inv_8.call hb_8; clear inv_8
    clear hb_8
    have Lb_8 := (Lc_8.below (Below.alloc (Below.refl (w_8).heap.size (w_8)) (Nat.le_refl _) (.cells (rcA f.b f.c f.d f.p f.q) 28))).more (Below.alloc (Below.refl (w_8).heap.size (w_8)) (Nat.le_refl _) (.cells (rcA f.b f.c f.d f.p f.q) 28)).size; clear Lc_8
    have Mb_8 := (Mc_8.below (Below.alloc (Below.refl (w_8).heap.size (w_8)) (Nat.le_refl _) (.cells (rcA f.b f.c f.d f.p f.q) 28))).more (Below.alloc (Below.refl (w_8).heap.size (w_8)) (Nat.le_refl _) (.cells (rcA f.b f.c f.d f.p f.q) 28)).size; clear Mc_8
    go_wp2_with (first | refine wpList_store_new rfl 28 _ _ rfl rfl w_8.heap.size (rcA f.b f.c f.d f.p f.q) rfl rfl _ #[.int .i32 0, .int .i32 0, .int .i32 0, .int .u16 0, .int .u16 0, .int .u16 0, .int .u16 0, .int .u16 0, .int .u16 0, .int .u16 0, .int .u16 0, .int .u16 0, .int .u16 0, .int .u16 0, .int .u16 0, .int .u16 0, .int .u16 0, .int .u16 0, .int .u16 0] w_8 rfl rfl rfl (by kernel_rfl) (by kernel_rfl) ?_ | refine wpList_row_g rfl 28 _ rfl _ rfl _ _ _ _ ((oc_8.alloc (.cells (rcA f.b f.c f.d f.p f.q) 28))) Tryd.underlying28 rfl (by kernel_rfl) ?_ | refine wpList_row_g rfl 28 _ rfl _ rfl _ _ _ _ ((rc_8.alloc (.cells (rcA f.b f.c f.d f.p f.q) 28))) Tryd.underlying28 rfl (by kernel_rfl) ?_)
    have o_9 := (oc_8.alloc (.cells (rcA f.b f.c f.d f.p f.q) 28))
    have r_9 := (rc_8.alloc (.cells (rcA f.b f.c f.d f.p f.q) 28))
    have x_9 := (xc_8.alloc (.cells (rcA f.b f.c f.d f.p f.q) 28))
    have z_9 := (Wd.Blk.new w_8 28 (rcA f.b f.c f.d f.p f.q))
    have inv_9 := (invc_8.alloc (.cells (rcA f.b f.c f.d f.p f.q) 28))
    refine (hrc _ inv_9.1).mono ?_; rintro e w_9 ⟨rfl, hb_9⟩
    have oc_9 := o_9.below hb_9 o_9.lt
    clear o_9
    have rc_9 := r_9.below hb_9 r_9.lt
    clear r_9
    have xc_9 := x_9.below hb_9 x_9.lt
    clear x_9
    have zc_9 := z_9.below hb_9 z_9.lt
    clear z_9
    have Lc_9 := (Lb_8.below hb_9).more hb_9.size
    clear Lb_8
    have Mc_9 := (Mb_8.below hb_9).more hb_9.size
    clear Mb_8
    have invc_9 := inv_9.call hb_9; clear inv_9
    clear hb_9
    have Lb_9 := (Lc_9.below (Below.alloc (Below.refl (w_9).heap.size (w_9)) (Nat.le_refl _) (.cells (rcA r.b r.c r.d r.p r.q) 28))).more (Below.alloc (Below.refl (w_9).heap.size (w_9)) (Nat.le_refl _) (.cells (rcA r.b r.c r.d r.p r.q) 28)).size; clear Lc_9
    have Mb_9 := (Mc_9.below (Below.alloc (Below.refl (w_9).heap.size (w_9)) (Nat.le_refl _) (.cells (rcA r.b r.c r.d r.p r.q) 28))).more (Below.alloc (Below.refl (w_9).heap.size (w_9)) (Nat.le_refl _) (.cells (rcA r.b r.c r.d r.p r.q) 28)).size; clear Mc_9
    have hl1 := HNL.out; have hl2 := HNM.out; obtain rfl : nm = nl := by omega
    clear hl1 hl2 HNL HNM
    go_wp2_with (first | refine wpList_store_new rfl 28 _ _ rfl rfl w_9.heap.size (rcA r.b r.c r.d r.p r.q) rfl rfl _ #[.int .i32 0, .int .i32 0, .int .i32 0, .int .u16 0, .int .u16 0, .int .u16 0, .int .u16 0, .int .u16 0, .int .u16 0, .int .u16 0, .int .u16 0, .int .u16 0, .int .u16 0, .int .u16 0, .int .u16 0, .int .u16 0, .int .u16 0, .int .u16 0, .int .u16 0] w_9 rfl rfl rfl (by kernel_rfl) (by kernel_rfl) ?_)
    have o_10 := (oc_9.alloc (.cells (rcA r.b r.c r.d r.p r.q) 28))
    have r_10 := (rc_9.alloc (.cells (rcA r.b r.c r.d r.p r.q) 28))
    have x_10 := (xc_9.alloc (.cells (rcA r.b r.c r.d r.p r.q) 28))
    have z_10 := (zc_9.alloc (.cells (rcA r.b r.c r.d r.p r.q) 28))
    have back_10 := (Wd.Blk.new w_9 28 (rcA r.b r.c r.d r.p r.q))
    have inv_10 := (invc_9.alloc (.cells (rcA r.b r.c r.d r.p r.q) 28))
    refine (same_eq _ _ _ _ _ l _ Lb_9 Mb_9 (by unfold maxLen; omega)).mono ?_; rintro e w_10 ⟨rfl, hb_10⟩
    have oc_10 := o_10.below hb_10 o_10.lt
    clear o_10
    have rc_10 := r_10.below hb_10 r_10.lt
    clear r_10
    have xc_10 := x_10.below hb_10 x_10.lt
    clear x_10
    have zc_10 := z_10.below hb_10 z_10.lt
    clear z_10
    have backc_10 := back_10.below hb_10 back_10.lt
    clear back_10
    have Lc_10 := (Lb_9.below hb_10).more hb_10.size
    clear Lb_9
    have Mc_10 := (Mb_9.below hb_10).more hb_10.size
    clear Mb_9
    have invc_10 := inv_10.call hb_10; clear inv_10
    clear hb_10
    go_wp2_with (first | refine wpList_row_g rfl 28 _ rfl _ rfl _ _ _ _ xc_10 Tryd.underlying28 rfl (by kernel_rfl) ?_ | refine wpList_row_g rfl 28 _ rfl _ rfl _ _ _ _ zc_10 Tryd.underlying28 rfl (by kernel_rfl) ?_ | refine wpList_row_g rfl 28 _ rfl _ rfl _ _ _ _ backc_10 Tryd.underlying28 rfl (by kernel_rfl) ?_ | refine wpList_row_g rfl 28 _ rfl _ rfl _ _ _ _ rc_10 Tryd.underlying28 rfl (by kernel_rfl) ?_)
    go_ret
    exact ⟨rfl, invc_10.2⟩
theorem forms_any (r : Rc) (Y a b : Int) (w : World) (hT : Tab w) (B : r.Bd) (ha : 0 ≤ a ∧ a ≤ 255) (hb : 0 ≤ b ∧ b ≤ 255) :
    Calls Tryd.prog 9 #[r.V, .int .i64 Y, .int .u8 a, .int .u8 b] w fun e w' => e = .returned (.bool true) ∧ Below w.heap.size w w' := by
  have fy : ∀ s : St, s.Bd → leS s Y = 0 → ∀ w, Tab w → Calls Tryd.prog 35 #[.agg (sA s), .int .i64 Y] w fun e w' => ∃ g n c, e = .returned (.tuple #[.slice (some ⟨g, 0, none⟩) n c, .int .i64 0]) ∧ Below w.heap.size w w' := fun s Bs h w hT =>
    (Sh.forms_yes s Y w hT Bs h).mono fun _ _ ⟨g, n, c, he, _, _, _, _, hb⟩ => ⟨g, n, c, he, hb⟩
  have fn : ∀ s : St, s.Bd → leS s Y ≠ 0 → ∀ w, Tab w → Calls Tryd.prog 35 #[.agg (sA s), .int .i64 Y] w fun e w' => e = .returned (.tuple #[.slice none 0 0, .int .i64 (leS s Y)]) ∧ Below w.heap.size w w' := fun s Bs h w hT => Sh.forms_no s Y w hT Bs h
  have tr : trE r.b r.c r.d r.p r.q Y = 0 → r.ok = true ∧ 1601 ≤ Y ∧ Y ≤ 9999 := fun h => by
    unfold trE at h
    cases hk : r.ok with
    | false => rw [if_pos (show rcOk r.b r.c r.d r.p r.q = false from hk)] at h; cases h
    | true =>
      rw [if_neg (by rw [show rcOk r.b r.c r.d r.p r.q = true from hk]; decide)] at h
      by_cases hY : 1601 ≤ Y ∧ Y ≤ 9999
      · exact ⟨rfl, hY⟩
      · rw [if_pos hY] at h; cases h
  have sy : trE r.b r.c r.d r.p r.q Y = 0 → ∀ w, Tab w → Calls Tryd.prog 23 #[r.V, .int .i64 Y] w fun e w' => ∃ g n c, e = .returned (.tuple #[.slice (some ⟨g, 0, none⟩) n c, .int .i64 0]) ∧ Below w.heap.size w w' := fun h w hT => by
    obtain ⟨hk, h1, h2⟩ := tr h
    exact (spans_yes r Y w hT B hk h1 h2).mono fun _ _ ⟨g, n, c, he, _, _, _, _, hb⟩ => ⟨g, n, c, he, hb⟩
  have sn : trE r.b r.c r.d r.p r.q Y ≠ 0 → ∀ w, Tab w → Calls Tryd.prog 23 #[r.V, .int .i64 Y] w fun e w' => e = .returned (.tuple #[.slice none 0 0, .int .i64 (trE r.b r.c r.d r.p r.q Y)]) ∧ Below w.heap.size w w' := fun h w hT => spans_no r Y _ w hT B rfl h
  by_cases e1 : trE r.b r.c r.d r.p r.q Y = 0
  · by_cases e2 : leS r.p Y = 0
    · by_cases e3 : leS r.q Y = 0
      · obtain ⟨hk, h1, h2⟩ := tr e1
        have ft := all_fit B hk h1 h2
        obtain ⟨la, lb, lc, ld⟩ := all_law B hk h1 h2
        have h3 := spL_len r Y
        have hp := Sh.fmL_len r.p Y
        have hq := Sh.fmL_len r.q Y
        obtain ⟨np, enp⟩ : ∃ n, (Sh.fmL r.p Y).length = n := ⟨_, rfl⟩
        obtain ⟨nq, enq⟩ : ∃ n, (Sh.fmL r.q Y).length = n := ⟨_, rfl⟩
        rw [enp] at hp; rw [enq] at hq
        have hi := Int.emod_nonneg a (show (np : Int) ≠ 0 by omega)
        have hj := Int.emod_nonneg b (show (nq : Int) ≠ 0 by omega)
        have hi2 := Int.emod_lt_of_pos a (show (0 : Int) < (np : Int) by omega)
        have hj2 := Int.emod_lt_of_pos b (show (0 : Int) < (nq : Int) by omega)
        have mem : ∀ (l : List St) (k : Nat), k < l.length → l.getD k St.nil ∈ l := fun l k h => by
          rw [List.getD_eq_getElem?_getD, List.getElem?_eq_getElem h]; exact List.getElem_mem h
        have fx := Sh.fmL_ok B.p e2 _ (mem (Sh.fmL r.p Y) (a % (np : Int)).toNat (by omega))
        have fz := Sh.fmL_ok B.q e3 _ (mem (Sh.fmL r.q Y) (b % (nq : Int)).toNat (by omega))
        have al := form_alike B hk e2 e3 fx fz
        have hsl := Sh.spL_alike al
        have back := shRec_back al hk e2 e3
        refine forms_good r Y a b w hT ha hb (spL r Y) (Sh.fmL r.p Y) (Sh.fmL r.q Y) _ _ (fitR (spL r Y) Y) (a % (np : Int)).toNat (b % (nq : Int)).toNat np nq (by omega) (by omega) (by omega) (by omega) rfl rfl enp enq h3.2 (by omega) (by omega) ?_ (fun w hT => Sh.forms_yes r.p Y w hT B.p e2) (fun w hT => Sh.forms_yes r.q Y w hT B.q e3) ?_ ?_ ?_
        · exact fun w hT => (spans_yes r Y w hT B hk h1 h2).mono fun _ _ ⟨g, n, c, he, hn, hc, hr, hg, hb⟩ => ⟨g, n, c, he, hn.symm, hc, hr, hg, hb⟩
        · intro w hT
          refine (spans_yes _ Y w hT al.bd (by rw [al.ok]; exact hk) h1 h2).mono ?_
          rintro e w' ⟨g, n, c, he, hn, hc, hr, hg, hb⟩
          rw [hsl] at hn hr
          exact ⟨g, n, c, he, hn.symm, hc, hr, hg, hb⟩
        · intro w A n cp hT hs h3 hc
          have hY' : inY Y = true := by unfold inY; exact decide_eq_true ⟨h1, h2⟩
          have hrg : rgB (spL r Y) Y = true := by unfold rgB; rw [la]; exact decide_eq_true ⟨lb, lc⟩
          have := year_any A n cp (spL r Y) Y w hT hs (by unfold maxLen; omega) hc
          rw [show fyE (spL r Y) Y = 0 by unfold fyE; rw [hY', hrg]; rfl, show fyW (spL r Y) Y = 0 by unfold fyW; rw [hY', hrg]; exact ld, show fyR (spL r Y) Y = fitR (spL r Y) Y by unfold fyR fyB; rw [hY', hrg, ld]; rfl] at this
          exact this
        · intro w hT
          have := Sh.rec_any _ r Y w hT al.bd B
          rw [back] at this
          exact this
      · exact forms_110 r Y a b w hT (sy e1) (fy _ B.p e2) _ e3 (fn _ B.q e3)
    · by_cases e3 : leS r.q Y = 0
      · exact forms_101 r Y a b w hT (sy e1) _ e2 (fn _ B.p e2) (fy _ B.q e3)
      · exact forms_100 r Y a b w hT (sy e1) _ e2 (fn _ B.p e2) _ e3 (fn _ B.q e3)
  · by_cases e2 : leS r.p Y = 0
    · by_cases e3 : leS r.q Y = 0
      · exact forms_011 r Y a b w hT _ e1 (sn e1) (fy _ B.p e2) (fy _ B.q e3)
      · exact forms_010 r Y a b w hT _ e1 (sn e1) (fy _ B.p e2) _ e3 (fn _ B.q e3)
    · by_cases e3 : leS r.q Y = 0
      · exact forms_001 r Y a b w hT _ e1 (sn e1) _ e2 (fn _ B.p e2) (fy _ B.q e3)
      · exact forms_000 r Y a b w hT _ e1 (sn e1) _ e2 (fn _ B.p e2) _ e3 (fn _ B.q e3)
end Go.Proofs.YtginidedeefcdaaDoor.Ft
